/- The law BackRow of package back, as a plain statement about what the program computes. -/
import Derived.Test.YtgcdbpnflchobaaDoorBackWake
import Derived.Test.YtgcdbpnflchobaaDoorG47
namespace Go.Proofs.YtgcdbpnflchobaaDoor.G
open Go.RowKit Go.Proofs.YtgcdbpnflchobaaDoorW.PrintWords Go.Proofs.YtgcdbpnflchobaaDoorW.PrintLast Go.Proofs.YtgcdbpnflchobaaDoorW.PrintMore
set_option linter.unusedVariables false
set_option linter.unusedSimpArgs false
def bitB (x : Int) (j : Nat) : Prop := Go.bits .and .i64 (shr .i64 x (j : Int)) 1 = 1
instance (x : Int) (j : Nat) : Decidable (bitB x j) := by unfold bitB; exact inferInstance
def nodeB (x : Int) (j : Nat) : Nd := ⟨0, (j : Int) - 1, [], if bitB x j then (⟨#[33]⟩ : ByteArray) else (⟨#[49]⟩ : ByteArray)⟩
def lastI (x : Int) : Nat → Int
  | 0 => -1
  | n + 1 => if bitB x n then (n : Int) else lastI x n
theorem lastI_range (x : Int) : ∀ n : Nat, -1 ≤ lastI x n ∧ lastI x n < (n : Int) ∨ (n = 0 ∧ lastI x n = -1)
  | 0 => .inr ⟨rfl, rfl⟩
  | n + 1 => by
    rw [lastI]
    have := lastI_range x n
    split <;> omega
theorem rn_set (l : List Nd) (i : Nat) (v : Nd) (h : i < l.length) : rn (l.set i v) (i : Int) = v := by
  rw [rn_eq _ i (by rw [List.length_set]; exact h), List.getElem_set_self]
def rowB (x : Int) (k : Nat) : List Nd := (List.range k).map (nodeB x)
theorem rowB_len (x : Int) (k : Nat) : (rowB x k).length = k := by simp [rowB]
theorem rowB_at (x : Int) (k j : Nat) (h : j < k) : rn (rowB x k) (j : Int) = nodeB x j := rn_map k (nodeB x) j h
theorem eqS_nodeB (x : Int) (j : Nat) : eqS (nodeB x j) = true := by
  have h : mayS (⟨#[49]⟩ : ByteArray) = true := by kernel_rfl
  have h2 : mayS (⟨#[33]⟩ : ByteArray) = true := by kernel_rfl
  have h3 : mayS (nodeB x j).f3 = true := by
    show mayS (if bitB x j then (⟨#[33]⟩ : ByteArray) else (⟨#[49]⟩ : ByteArray)) = true
    split <;> assumption
  unfold eqS
  rw [h3]
  rfl
theorem may_rowB (x : Int) (k : Nat) (h0 : 0 < k) (h1 : k ≤ 512) : mayT (rowB x k) = true := by
  unfold mayT
  rw [Bool.and_eq_true, decide_eq_true_iff, rowB_len]
  refine ⟨h0, List.all_eq_true.2 fun i hi => ?_⟩
  have hi := List.mem_range.1 hi
  rw [rowB_at x k i hi]
  unfold nextS
  rw [eqS_nodeB, Bool.and_true, Bool.and_eq_true, Bool.or_eq_true, decide_eq_true_iff, decide_eq_true_iff, decide_eq_true_iff]
  refine ⟨by omega, ?_⟩
  show (0 ≤ (i : Int) - 1 ∧ (i : Int) - 1 < (i : Int)) ∨ ((i : Int) = 0 ∧ (i : Int) - 1 = -1)
  omega
theorem ok_rowB (x : Int) (k : Nat) (h1 : k ≤ 512) : okN (rowB x k) := by
  refine ⟨by rw [rowB_len]; omega, fun y hy => ?_⟩
  obtain ⟨j, _, rfl⟩ := List.mem_map.1 hy
  exact Nat.zero_le _
def downL (a : Nat) : List Int := (List.range (a + 1)).map fun j : Nat => (a : Int) - (j : Int)
theorem downL_succ (a : Nat) : downL (a + 1) = ((a + 1 : Nat) : Int) :: downL a := by
  unfold downL
  rw [List.range_succ_eq_map, List.map_cons, List.map_map]
  congr 1
  apply List.map_congr_left
  intro j _
  show ((a + 1 : Nat) : Int) - ((j + 1 : Nat) : Int) = _
  omega
theorem downL_len (a : Nat) : (downL a).length = a + 1 := by simp [downL]
theorem downL_at (a i : Nat) (h : i ≤ a) : rd (downL a) (i : Int) = (a : Int) - (i : Int) := by
  show List.getD _ _ _ = _
  rw [Int.toNat_natCast, List.getD_eq_getElem?_getD, List.getElem?_eq_getElem (by rw [downL_len]; omega)]
  simp [downL]
theorem up_rowB (x : Int) (k : Nat) : ∀ (a n : Nat), a < n → a < k → upTo' (rowB x k) n (a : Int) = downL a
  | _, 0, h, _ => absurd h (by omega)
  | 0, n + 1, _, h => by
    have e : (rn (rowB x k) ((0 : Nat) : Int)).f1 = -1 := by rw [rowB_at x k 0 h]; rfl
    rw [upTo'_step _ _ (by omega)]
    show _ :: upTo' _ n (rn (rowB x k) ((0 : Nat) : Int)).f1 = _
    rw [e, upTo'_none _ (-1) (by omega)]; rfl
  | a + 1, n + 1, hn, h => by
    have e : (rn (rowB x k) ((a + 1 : Nat) : Int)).f1 = (a : Int) := by
      rw [rowB_at x k (a + 1) h]
      show ((a + 1 : Nat) : Int) - 1 = _
      omega
    rw [upTo'_step _ _ (by omega), downL_succ]
    show _ :: upTo' _ n (rn (rowB x k) ((a + 1 : Nat) : Int)).f1 = _
    rw [e, up_rowB x k a n (by omega) (by omega)]
theorem last_rowB (x : Int) (k : Nat) : ∀ n : Nat, n ≤ k → lastF (rowB x k) n = if 0 ≤ lastI x n then some (lastI x n).toNat else none
  | 0, _ => rfl
  | n + 1, h => by
    have e : ((rn (rowB x k) (n : Int)).f3).toList = if bitB x n then ([33] : List UInt8) else [49] := by
      rw [rowB_at x k n (by omega)]
      show (if bitB x n then (⟨#[33]⟩ : ByteArray) else (⟨#[49]⟩ : ByteArray)).toList = _
      have h1 : (⟨#[33]⟩ : ByteArray).toList = [33] := by kernel_rfl
      have h2 : (⟨#[49]⟩ : ByteArray).toList = [49] := by kernel_rfl
      split
      · exact h1
      · exact h2
    have e' : ((rd_T44 (rowB x k) (n : Int)).f3).toList = if bitB x n then ([33] : List UInt8) else [49] := e
    rw [lastF, lastI, e']
    by_cases c : bitB x n
    · rw [if_pos c, if_pos c, if_pos rfl, if_pos (by omega), Int.toNat_natCast]
    · rw [if_neg c, if_neg c, if_neg (by decide), last_rowB x k n (by omega)]
theorem row_l1 (x : Int) (k m : Nat) (h0 : 0 < k) (h1 : k ≤ 512) (hm : m < k) : ∀ (n i : Nat), i + n = m + 1 → Ev (fun q => sleuthlaw24_BackRow.l1 q (rowB x k) (lastI x k) (m : Int) (downL m) (i : Int)) true := by
  intro n
  induction n with
  | zero =>
    intro i hi
    obtain rfl : i = m + 1 := by omega
    refine Ev.step (f := fun q => (back_Last.f q (rowB x k)).bind fun bt618 => ((sleuthlaw0_Num.f bt618.2.2).bind fun t621 => (if t621 = 0 then (if (bt618.2.1 == (decide (lastI x k ≥ 0))) = true then (if bt618.1 = (mx 0 (lastI x k)) then ((sleuthref12_TrailMay.f q (rowB x k)).bind fun t622 => (if t622 = true then ((sleuthlaw24_some.f).bind fun t623 => (some ((t623.length : Int) == 5))) else (some false))) else (some false)) else (some false)) else (some false)))) (fun q => ?_) ?_
    · rw [sleuthlaw24_BackRow.l1, if_neg (by omega)]
    · refine Ev.bind (last_ev (rowB x k)) ?_
      have e : lastS (rowB x k) = (mx 0 (lastI x k), decide (lastI x k ≥ 0), 0) := by
        unfold lastS
        rw [may_rowB x k h0 h1, if_pos rfl, rowB_len, last_rowB x k k (Nat.le_refl _)]
        have hr := lastI_range x k
        unfold mx
        by_cases c : 0 ≤ lastI x k
        · rw [if_pos c, decide_eq_true (show lastI x k ≥ 0 from c)]
          show (((lastI x k).toNat : Int), true, (0 : Int)) = _
          rw [Int.toNat_of_nonneg c]
          by_cases d : (0 : Int) < lastI x k
          · rw [if_pos d]
          · rw [if_neg d, show lastI x k = 0 by omega]
        · rw [if_neg c, if_neg (by omega), decide_eq_false (show ¬ lastI x k ≥ 0 by omega)]; rfl
      rw [e]
      simp only [sleuthlaw0_Num.f, Option.bind_some, if_pos, BEq.rfl]
      refine Ev.bind (refTrail_ev (rowB x k) (ok_rowB x k h1)) ?_
      rw [may_rowB x k h0 h1]
      simp only [if_pos, someB_eq, Option.bind_some]
      exact Ev.now _
  | succ n ih =>
    intro i hi
    have hw : wrap64 ((i : Int) + 1) = ((i + 1 : Nat) : Int) := by rw [w64 (by omega) (by omega)]; omega
    have hw2 : wrap64 ((m : Int) - (i : Int)) = (m : Int) - (i : Int) := w64 (by omega) (by omega)
    refine Ev.step (f := fun q => sleuthlaw24_BackRow.l1 q (rowB x k) (lastI x k) (m : Int) (downL m) ((i + 1 : Nat) : Int)) (fun q => ?_) (ih (i + 1) (by omega))
    rw [sleuthlaw24_BackRow.l1, if_pos (by omega), if_pos (by omega), if_pos (by rw [downL_len]; omega), downL_at m i (by omega), hw2, if_pos rfl, hw]
theorem row_l0 (x1 x : Int) (k : Nat) (h0 : 0 < k) (h1 : k ≤ 512) : ∀ (n i : Nat), i + n = k → Ev (fun q => sleuthlaw24_BackRow.l0 q x1 x (k : Int) (rowI k i (nodeB x)) (lastI x i) (i : Int)) true := by
  intro n
  induction n with
  | zero =>
    intro i hi
    obtain rfl : i = k := by omega
    obtain ⟨eu, m, hm, em⟩ := umod x1 i h0 h1
    have hpb : pathS (rowB x i) (m : Int) = (downL m, 0) := by
      unfold pathS
      rw [if_pos (inB_of (may_rowB x i h0 h1) (by omega) (by rw [rowB_len]; omega)), up_rowB x i m _ (by rw [rowB_len]; omega) hm]
    have hw : wrap64 ((m : Int) + 1) = (m : Int) + 1 := w64 (by omega) (by omega)
    refine Ev.step (f := fun q => (back_Path.f q (rowB x i) (m : Int)).bind fun bt612 => ((sleuthlaw0_Num.f bt612.2).bind fun t616 => (if t616 = 0 then (sleuthlaw24_BackRow.j1 q (rowB x i) (lastI x i) (m : Int) bt612.1 ((bt612.1.length : Int) != (wrap64 ((m : Int) + 1)))) else (sleuthlaw24_BackRow.j1 q (rowB x i) (lastI x i) (m : Int) bt612.1 true)))) (fun q => ?_) ?_
    · rw [sleuthlaw24_BackRow.l0, if_neg (by omega), eu, if_neg (by omega), em, rowI_full]; rfl
    · refine Ev.bind (path_ev (rowB x i) (m : Int)) ?_
      simp only [hpb, sleuthlaw0_Num.f, Option.bind_some, if_pos, hw, downL_len]
      rw [show ((((m + 1 : Nat) : Int)) != (m : Int) + 1) = false from bne_eq_false_iff_eq.2 (by omega)]
      refine Ev.step (f := fun q => sleuthlaw24_BackRow.l1 q (rowB x i) (lastI x i) (m : Int) (downL m) 0) (fun q => ?_) (row_l1 x i m h0 h1 hm (m + 1) 0 (by omega))
      rw [sleuthlaw24_BackRow.j1, if_neg Bool.false_ne_true]
  | succ n ih =>
    intro i hi
    have hw : wrap64 ((i : Int) + 1) = ((i + 1 : Nat) : Int) := by rw [w64 (by omega) (by omega)]; omega
    have hw2 : wrap64 ((i : Int) - 1) = (i : Int) - 1 := w64 (by omega) (by omega)
    have hl : (rowI k i (nodeB x)).length = k := by simp [rowI]
    have hs := rowI_set k i (nodeB x) (by omega)
    refine Ev.step (f := fun q => sleuthlaw24_BackRow.l0 q x1 x (k : Int) (rowI k (i + 1) (nodeB x)) (lastI x (i + 1)) ((i + 1 : Nat) : Int)) (fun q => ?_) (ih (i + 1) (by omega))
    rw [sleuthlaw24_BackRow.l0, if_pos (by omega), if_pos (by omega), if_pos (by rw [hl]; omega), hw, hw2, Int.toNat_natCast, Option.bind_some, ← hs, lastI]
    have hrn := rn_set (rowI k i (nodeB x)) i (⟨0, (i : Int) - 1, ([] : List ByteArray), (⟨#[49]⟩ : ByteArray)⟩ : Nd) (by rw [hl]; omega)
    by_cases c : bitB x i
    · have e : nodeB x i = (⟨0, (i : Int) - 1, [], (⟨#[33]⟩ : ByteArray)⟩ : Nd) := by unfold nodeB; rw [if_pos c]
      have c' : Go.bits .and .i64 (shr .i64 x (i : Int)) 1 = 1 := c
      rw [if_pos c', if_pos c, e]
      have hrn' : rd_T44 ((rowI k i (nodeB x)).set i (⟨0, (i : Int) - 1, ([] : List ByteArray), (⟨#[49]⟩ : ByteArray)⟩ : Nd)) (i : Int) = (⟨0, (i : Int) - 1, ([] : List ByteArray), (⟨#[49]⟩ : ByteArray)⟩ : Nd) := hrn
      rw [hrn', List.set_set]
    · have e : nodeB x i = (⟨0, (i : Int) - 1, [], (⟨#[49]⟩ : ByteArray)⟩ : Nd) := by unfold nodeB; rw [if_neg c]
      have c' : ¬ Go.bits .and .i64 (shr .i64 x (i : Int)) 1 = 1 := c
      rw [if_neg c', if_neg c, e]
theorem backRow_pure : sleuthlaw24_BackRow.Pure := by
  intro a0 a1 a2 _ _ _
  refine Ev.rounds (g := fun k => sleuthlaw24_BackRow.f k a0 a1 a2) ?_
  unfold sleuthlaw24_BackRow.f
  refine Ev.bind backAwake_ev ?_
  obtain ⟨d, hd, ed⟩ : ∃ d : Nat, d ≤ 31 ∧ Go.bits .and .i64 a0 31 = (d : Int) := by
    have h := and_range a0 31 (by omega)
    rw [show ((31 : Nat) : Int) = 31 from rfl] at h
    exact ⟨(Go.bits .and .i64 a0 31).toNat, by omega, by omega⟩
  have hd1 : wrap64 (1 + (d : Int)) = ((1 + d : Nat) : Int) := by rw [w64 (by omega) (by omega)]; omega
  simp only [if_pos, ed, hd1]
  have g1 : (0 : Int) ≤ ((1 + d : Nat) : Int) := by omega
  have g2 : (((1 + d : Nat) : Int) : Int).toNat ≤ 5026338869833 := by omega
  simp only [if_pos g1, if_pos g2]
  have h := row_l0 a1 a2 (1 + d) (by omega) (by omega) (1 + d) 0 (by omega)
  rw [rowI_zero] at h
  rw [Int.toNat_natCast]
  exact h
end Go.Proofs.YtgcdbpnflchobaaDoor.G
