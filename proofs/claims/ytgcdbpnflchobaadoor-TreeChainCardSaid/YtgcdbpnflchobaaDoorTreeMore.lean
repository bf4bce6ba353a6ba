/- The laws TreeAll and TreeChain of package tree, as plain statements about what the program computes. -/
import Derived.Test.YtgcdbpnflchobaaDoorTreeWake
import Derived.Test.YtgcdbpnflchobaaDoorTRows
import Derived.Test.YtgcdbpnflchobaaDoorG35
import Derived.Test.YtgcdbpnflchobaaDoorG36
namespace Go.Proofs.YtgcdbpnflchobaaDoor.G
open Go.RowKit Go.Proofs.YtgcdbpnflchobaaDoorW.PrintWords Go.Proofs.YtgcdbpnflchobaaDoorW.PrintLast Go.Proofs.YtgcdbpnflchobaaDoorW.PrintMore
set_option linter.unusedVariables false
set_option linter.unusedSimpArgs false
theorem kidsTo_mem (ns : List Nd) (a : Int) (x : Int) : ∀ n : Nat, x ∈ kidsTo ns a n ↔ ∃ j : Nat, j < n ∧ x = (j : Int) ∧ a < (j : Int) ∧ pa ns j = a
  | 0 => by rw [kidsTo]; simp
  | n + 1 => by
    rw [kidsTo]
    by_cases c : a < (n : Int) ∧ (rn ns (n : Int)).f1 = a
    · rw [if_pos c, List.mem_append, List.mem_singleton, kidsTo_mem ns a x n]
      constructor
      · rintro (⟨j, h1, h2, h3⟩ | h)
        · exact ⟨j, by omega, h2, h3⟩
        · exact ⟨n, by omega, h, c.1, c.2⟩
      · rintro ⟨j, h1, h2, h3, h4⟩
        rcases Nat.lt_or_ge j n with d | d
        · exact .inl ⟨j, d, h2, h3, h4⟩
        · obtain rfl : j = n := by omega
          exact .inr h2
    · rw [if_neg c, kidsTo_mem ns a x n]
      constructor
      · rintro ⟨j, h1, h2, h3⟩
        exact ⟨j, by omega, h2, h3⟩
      · rintro ⟨j, h1, h2, h3, h4⟩
        rcases Nat.lt_or_ge j n with d | d
        · exact ⟨j, d, h2, h3, h4⟩
        · obtain rfl : j = n := by omega
          exact absurd ⟨h3, h4⟩ c
theorem kidsTo_lt (ns : List Nd) (a : Int) : ∀ n : Nat, (kidsTo ns a n).Pairwise (· < ·)
  | 0 => by rw [kidsTo]; exact List.Pairwise.nil
  | n + 1 => by
    rw [kidsTo]
    split
    · rw [List.pairwise_append]
      refine ⟨kidsTo_lt ns a n, List.pairwise_singleton _ _, fun x hx y hy => ?_⟩
      obtain ⟨j, h1, h2, _⟩ := (kidsTo_mem ns a x n).1 hx
      rw [List.mem_singleton] at hy
      omega
    · exact kidsTo_lt ns a n
def seenB (ns : List Nd) (i : Nat) (L : List Int) : List Int := (List.range ns.length).map fun j => if (0 ≤ pa ns j ∧ pa ns j < (i : Int)) ∨ (j : Int) ∈ L then 1 else 0
theorem seenB_len (ns : List Nd) (i : Nat) (L : List Int) : (seenB ns i L).length = ns.length := by simp [seenB]
theorem seenB_at (ns : List Nd) (i : Nat) (L : List Int) (j : Nat) (h : j < ns.length) : rd (seenB ns i L) (j : Int) = if (0 ≤ pa ns j ∧ pa ns j < (i : Int)) ∨ (j : Int) ∈ L then 1 else 0 := by
  show (seenB ns i L).getD (j : Int).toNat 0 = _
  rw [Int.toNat_natCast, List.getD_eq_getElem?_getD]
  unfold seenB
  rw [List.getElem?_map, List.getElem?_range h]; rfl
theorem seenB_set (ns : List Nd) (i : Nat) (L : List Int) (v : Nat) (hv : v < ns.length) : (seenB ns i L).set v 1 = seenB ns i (L ++ [(v : Int)]) := by
  apply List.ext_getElem
  · simp [seenB]
  · intro j h1 h2
    rw [List.getElem_set]
    simp only [seenB, List.getElem_map, List.getElem_range]
    by_cases c : v = j
    · rw [if_pos c, if_pos (.inr (List.mem_append_right _ (by rw [List.mem_singleton, c])))]
    · rw [if_neg c]
      have : ((j : Int) ∈ L ++ [(v : Int)]) ↔ (j : Int) ∈ L := by
        rw [List.mem_append, List.mem_singleton]
        constructor
        · rintro (h | h)
          · exact h
          · omega
        · exact .inl
      simp only [this]
theorem seenB_next (ns : List Nd) (h : mayT ns = true) (i : Nat) : seenB ns i (kidsTo ns (i : Int) ns.length) = seenB ns (i + 1) [] := by
  unfold seenB
  apply List.map_congr_left
  intro j hj
  have hj := List.mem_range.1 hj
  have hp := mayT_pa h j hj
  have e : ((0 ≤ pa ns j ∧ pa ns j < (i : Int)) ∨ (j : Int) ∈ kidsTo ns (i : Int) ns.length) ↔ ((0 ≤ pa ns j ∧ pa ns j < ((i + 1 : Nat) : Int)) ∨ (j : Int) ∈ ([] : List Int)) := by
   rw [kidsTo_mem]
   constructor
   · rintro (h1 | ⟨j', h1, h2, h3, h4⟩)
     · exact .inl (by omega)
     · obtain rfl : j = j' := by omega
       exact .inl (by omega)
   · rintro (h1 | h1)
     · rcases Int.lt_or_eq_of_le (show pa ns j ≤ (i : Int) by omega) with c | c
       · exact .inl (by omega)
       · exact .inr ⟨j, hj, rfl, by omega, c⟩
     · cases h1
  simp only [e]
theorem treeAll_l2 (ns : List Nd) (h : mayT ns = true) : ∀ (n i : Nat), i + n = ns.length → Ev (fun k => sleuthlaw13_TreeAll.l2 k ns (seenB ns ns.length []) (i : Int)) true := by
  have hlen := mayT_len h
  intro n
  induction n with
  | zero =>
    intro i hi
    refine Ev.step (f := fun _ => some true) (fun k => ?_) (Ev.now _)
    rw [sleuthlaw13_TreeAll.l2, if_neg (by omega)]
  | succ n ih =>
    intro i hi
    have hw : wrap64 ((i : Int) + 1) = ((i + 1 : Nat) : Int) := by rw [w64 (by omega) (by omega)]; omega
    have hp := mayT_pa h i (by omega)
    refine Ev.step (f := fun k => sleuthlaw13_TreeAll.l2 k ns (seenB ns ns.length []) ((i + 1 : Nat) : Int)) (fun k => ?_) (ih (i + 1) (by omega))
    have hv : rd (seenB ns ns.length []) (i : Int) = mn (i : Int) 1 := by
      rw [seenB_at ns _ _ i (by omega)]
      unfold mn
      by_cases c : i = 0
      · rw [if_neg (by simp; omega)]
        subst c
        split <;> omega
      · rw [if_pos (.inl (by omega))]
        split <;> omega
    rw [sleuthlaw13_TreeAll.l2, if_pos (by omega), if_pos (by omega), if_pos (by rw [seenB_len]; omega), if_pos hv, hw]
theorem treeAll_l1 (ns : List Nd) (h : mayT ns = true) (i : Nat) (hi : i < ns.length) (hnext : Ev (fun k => sleuthlaw13_TreeAll.l0 k ns (seenB ns (i + 1) []) ((i + 1 : Nat) : Int)) true) :
    ∀ (n m : Nat), m + n = (kidsTo ns (i : Int) ns.length).length → Ev (fun k => sleuthlaw13_TreeAll.l1 k ns (seenB ns i ((kidsTo ns (i : Int) ns.length).take m)) (i : Int) (kidsTo ns (i : Int) ns.length) (m : Int)) true := by
  have hlen := mayT_len h
  have hkl := kidsTo_len ns (i : Int) ns.length
  intro n
  induction n with
  | zero =>
    intro m hm
    refine Ev.step (f := fun k => sleuthlaw13_TreeAll.l0 k ns (seenB ns (i + 1) []) ((i + 1 : Nat) : Int)) (fun k => ?_) hnext
    rw [sleuthlaw13_TreeAll.l1, if_neg (by omega), List.take_of_length_le (by omega), seenB_next ns h i, show wrap64 ((i : Int) + 1) = ((i + 1 : Nat) : Int) from by rw [w64 (by omega) (by omega)]; omega]
  | succ n ih =>
    intro m hm
    have hml : m < (kidsTo ns (i : Int) ns.length).length := by omega
    have hw : wrap64 ((m : Int) + 1) = ((m + 1 : Nat) : Int) := by rw [w64 (by omega) (by omega)]; omega
    obtain ⟨v, hv1, hv2, hv3, hv4⟩ := (kidsTo_mem ns (i : Int) _ ns.length).1 (List.getElem_mem hml)
    have hrd : rd (kidsTo ns (i : Int) ns.length) (m : Int) = (v : Int) := by
      show List.getD _ _ _ = _
      rw [Int.toNat_natCast, List.getD_eq_getElem?_getD, List.getElem?_eq_getElem hml, ← hv2]; rfl
    have hnot : (v : Int) ∉ (kidsTo ns (i : Int) ns.length).take m := by
      intro hmem
      obtain ⟨q, hq, hqe⟩ := List.getElem_of_mem hmem
      rw [List.length_take] at hq
      rw [List.getElem_take] at hqe
      have := List.pairwise_iff_getElem.1 (kidsTo_lt ns (i : Int) ns.length) q m (by omega) hml (by omega)
      omega
    refine Ev.step (f := fun k => sleuthlaw13_TreeAll.l1 k ns (seenB ns i ((kidsTo ns (i : Int) ns.length).take (m + 1))) (i : Int) (kidsTo ns (i : Int) ns.length) ((m + 1 : Nat) : Int)) (fun k => ?_) (ih (m + 1) (by omega))
    have hpv : (rn ns (v : Int)).f1 = (i : Int) := hv4
    rw [sleuthlaw13_TreeAll.l1, if_pos (by omega), if_pos (by omega), hrd, if_neg (by omega), if_neg (by omega), if_pos (by omega), if_pos (by omega), if_pos hpv, if_pos (by rw [seenB_len]; omega), seenB_at ns _ _ v hv1, if_neg (fun hh => hh.elim (fun h1 => by omega) hnot), Int.toNat_natCast, show wrap64 ((0 : Int) + 1) = 1 from by unfold wrap64; omega, seenB_set ns _ _ v hv1, hw, List.take_succ_eq_append_getElem hml, hv2]
theorem treeAll_l0 (ns : List Nd) (h : mayT ns = true) : ∀ (n i : Nat), i + n = ns.length → Ev (fun k => sleuthlaw13_TreeAll.l0 k ns (seenB ns i []) (i : Int)) true := by
  have hlen := mayT_len h
  intro n
  induction n with
  | zero =>
    intro i hi
    obtain rfl : i = ns.length := by omega
    refine Ev.step (f := fun k => sleuthlaw13_TreeAll.l2 k ns (seenB ns ns.length []) ((0 : Nat) : Int)) (fun k => ?_) (treeAll_l2 ns h ns.length 0 (by omega))
    rw [sleuthlaw13_TreeAll.l0, if_neg (by omega)]; rfl
  | succ n ih =>
    intro i hi
    have hk : kidsS ns (i : Int) = (kidsTo ns (i : Int) ns.length, 0) := by unfold kidsS; rw [if_pos (inT_of h (by omega) (by omega))]
    refine Ev.step (f := fun k => ((tree_Kids.f k ns (i : Int)).bind fun bt421 => ((sleuthlaw0_Num.f bt421.2).bind fun t425 => (if t425 = 0 then (sleuthlaw13_TreeAll.l1 k ns (seenB ns i []) (i : Int) bt421.1 0) else (some false))))) (fun k => ?_) ?_
    · rw [sleuthlaw13_TreeAll.l0, if_pos (by omega)]
    · refine Ev.bind (kids_ev ns (i : Int)) ?_
      simp only [hk, sleuthlaw0_Num.f, Option.bind_some, if_pos]
      have := treeAll_l1 ns h i (by omega) (ih (i + 1) (by omega)) (kidsTo ns (i : Int) ns.length).length 0 (by omega)
      rw [List.take_zero] at this
      exact this
theorem treeAll_pure (l0 : List Nd) (h0 : fineN l0) : ∃ k, sleuthlaw13_TreeAll.f k l0 = some true := by
  refine Ev.rounds (g := fun k => sleuthlaw13_TreeAll.f k l0) ?_
  unfold sleuthlaw13_TreeAll.f
  refine Ev.bind awake_ev ?_
  simp only [if_pos]
  refine Ev.bind (refTrail_ev l0 h0.ok) ?_
  by_cases c : mayT l0 = true
  · have hlen := mayT_len c
    simp only [if_pos c]
    have g1 : (0 : Int) ≤ (l0.length : Int) := by omega
    have g2 : ((l0.length : Int) : Int).toNat ≤ 35184372088832 := by omega
    simp only [if_pos g1, if_pos g2]
    have hz : List.replicate ((l0.length : Int) : Int).toNat (0 : Int) = seenB l0 0 [] := by
      apply List.ext_getElem
      · simp [seenB]
      · intro j h1 h2
        simp only [List.getElem_replicate, seenB, List.getElem_map, List.getElem_range]
        rw [if_neg]
        rintro (hh | hh)
        · omega
        · cases hh
    rw [hz]
    exact treeAll_l0 l0 c l0.length 0 (by omega)
  · simp only [if_neg c]; exact Ev.now _
/-! rows and fans -/
def rowN (k : Nat) : List Nd := (List.range k).map fun j : Nat => one ((j : Int) - 1)
def fanN (k : Nat) : List Nd := (List.range k).map fun j : Nat => one (if j = 0 then -1 else 0)
theorem may_row (k : Nat) (h0 : 0 < k) (h1 : k ≤ 512) : mayT (rowN k) = true := may_map k h0 h1 (fun j : Nat => (j : Int) - 1) (fun j hj => by omega)
theorem may_fan (k : Nat) (h0 : 0 < k) (h1 : k ≤ 512) : mayT (fanN k) = true := may_map k h0 h1 (fun j : Nat => if j = 0 then -1 else 0) (fun j hj => by split <;> omega)
theorem row_len (k : Nat) : (rowN k).length = k := by simp [rowN]
theorem fan_len (k : Nat) : (fanN k).length = k := by simp [fanN]
theorem row_pa (k j : Nat) (h : j < k) : pa (rowN k) j = (j : Int) - 1 := by unfold pa rowN; rw [rn_map k _ j h]; rfl
theorem fan_pa (k j : Nat) (h : j < k) : pa (fanN k) j = if j = 0 then -1 else 0 := by unfold pa fanN; rw [rn_map k _ j h]; rfl
theorem row_dsc (k : Nat) (h0 : 0 < k) (h1 : k ≤ 512) (p : Nat) : ∀ j, j < k → dsc (ps (rowN k)) p j = decide (p ≤ j) := by
  have hp := par_of (may_row k h0 h1)
  intro j
  induction j with
  | zero =>
    intro hj
    rw [dsc_zero hp p (by rw [ps_len, row_len]; omega), Bool.eq_iff_iff, beq_iff_eq, decide_eq_true_iff]; omega
  | succ j ih =>
    intro hj
    rw [dsc_step hp p (by rw [ps_len, row_len]; omega) (by omega), ps_at _ _ (by rw [row_len]; omega), row_pa k _ hj, show (((j + 1 : Nat) : Int) - 1).toNat = j by omega, ih (by omega), Bool.eq_iff_iff, Bool.or_eq_true, beq_iff_eq, decide_eq_true_iff, decide_eq_true_iff]; omega
theorem fan_dsc (k : Nat) (h0 : 0 < k) (h1 : k ≤ 512) (p : Nat) (j : Nat) (hj : j < k) : dsc (ps (fanN k)) p j = decide (j = p ∨ p = 0) := by
  have hp := par_of (may_fan k h0 h1)
  have z : dsc (ps (fanN k)) p 0 = decide (p = 0) := by
    rw [dsc_zero hp p (by rw [ps_len, fan_len]; omega), Bool.eq_iff_iff, beq_iff_eq, decide_eq_true_iff]; omega
  by_cases c : j = 0
  · subst c
    rw [z]; exact decide_eq_decide.2 (by omega)
  · rw [dsc_step hp p (by rw [ps_len, fan_len]; omega) (by omega), ps_at _ _ (by rw [fan_len]; omega), fan_pa k _ hj, if_neg c, show ((0 : Int)).toNat = 0 by rfl, z, Bool.eq_iff_iff, Bool.or_eq_true, beq_iff_eq, decide_eq_true_iff, decide_eq_true_iff]
theorem sum_ge (p : Nat) : ∀ n : Nat, sumTo (fun j => if p ≤ j then (1 : Int) else 0) n = ((n - p : Nat) : Int)
  | 0 => by rw [sumTo]; simp
  | n + 1 => by
    rw [sumTo, sum_ge p n]
    by_cases c : p ≤ n
    · rw [if_pos c]; omega
    · rw [if_neg c]; omega
theorem row_size (k : Nat) (h0 : 0 < k) (h1 : k ≤ 512) (m : Nat) (hm : m < k) : sizeS (rowN k) (m : Int) = ((k : Int) - (m : Int), 0) := by
  unfold sizeS
  rw [if_pos (inT_of (may_row k h0 h1) (by omega) (by rw [row_len]; omega)), Int.toNat_natCast]
  unfold cntD indD
  rw [row_len, sumTo_congr (g := fun j => if m ≤ j then (1 : Int) else 0) (fun j hj => by rw [row_dsc k h0 h1 m j hj]; simp only [decide_eq_true_iff]), sum_ge]
  congr 1
  omega
theorem sum_one_at (p : Nat) : ∀ n : Nat, sumTo (fun j => if j = p then (1 : Int) else 0) n = if p < n then 1 else 0
  | 0 => by rw [sumTo]; simp
  | n + 1 => by
    rw [sumTo, sum_one_at p n]
    by_cases c : p < n
    · rw [if_pos c, if_neg (by omega), if_pos (by omega)]; rfl
    · by_cases d : n = p
      · rw [if_neg c, if_pos d, if_pos (by omega)]; rfl
      · rw [if_neg c, if_neg d, if_neg (by omega)]; rfl
theorem fan_size (k : Nat) (h0 : 0 < k) (h1 : k ≤ 512) (m : Nat) (hm : m < k) : sizeS (fanN k) (m : Int) = (if m = 0 then (k : Int) else 1, 0) := by
  unfold sizeS
  rw [if_pos (inT_of (may_fan k h0 h1) (by omega) (by rw [fan_len]; omega)), Int.toNat_natCast]
  unfold cntD indD
  rw [fan_len]
  congr 1
  by_cases c : m = 0
  · rw [if_pos c, sumTo_congr (g := fun _ => (1 : Int)) (fun j hj => by rw [fan_dsc k h0 h1 m j hj, if_pos (by rw [decide_eq_true_iff]; exact .inr c)]), sumTo_const]
  · rw [if_neg c, sumTo_congr (g := fun j => if j = m then (1 : Int) else 0) (fun j hj => by rw [fan_dsc k h0 h1 m j hj]; simp only [decide_eq_true_iff, c, or_false]), sum_one_at, if_pos hm]
theorem fan_kids_n (k : Nat) (m : Nat) : ∀ n, n ≤ k → (kidsTo (fanN k) (m : Int) n).length = if m = 0 then n - 1 else 0
  | 0, _ => by rw [kidsTo]; simp
  | n + 1, hn => by
    have hp := fan_pa k n (by omega)
    unfold pa at hp
    rw [kidsTo, hp]
    by_cases c : m = 0
    · by_cases d : n = 0
      · rw [if_neg (by omega), fan_kids_n k m n (by omega), if_pos c, if_pos c]; omega
      · rw [if_pos (by rw [if_neg d]; omega), List.length_append, fan_kids_n k m n (by omega), if_pos c, if_pos c, List.length_singleton]; omega
    · rw [if_neg (by split <;> omega), fan_kids_n k m n (by omega), if_neg c, if_neg c]
theorem chain_end (k m : Nat) (h0 : 0 < k) (h1 : k ≤ 512) (hm : m < k) (w : Int) (hw : w = if m = 0 then (k : Int) else 1) : Ev (fun n => sleuthlaw13_TreeChain.j1 n (k : Int) (m : Int) ((k : Int) - (m : Int)) 0 (if m = 0 then (k : Int) else 1) 0 (kidsTo (fanN k) (m : Int) k) 0 w) true := by
  have hkl := fan_kids_n k m k (Nat.le_refl _)
  refine Ev.step (f := fun _ => some true) (fun n => ?_) (Ev.now _)
  subst hw
  have e1 : wrap64 ((k : Int) - (m : Int)) = (k : Int) - (m : Int) := w64 (by omega) (by omega)
  have e2 : ((kidsTo (fanN k) (m : Int) k).length : Int) = wrap64 ((if m = 0 then (k : Int) else 1) - 1) := by
    rw [hkl, w64 (by split <;> omega) (by split <;> omega)]
    split <;> omega
  simp only [sleuthlaw13_TreeChain.j1, sleuthlaw0_Num.f, Option.bind_some, if_pos, e1, e2, some_eq]
  rfl
theorem chain_l0 (a1 : Int) (k : Nat) (h0 : 0 < k) (h1 : k ≤ 512) : ∀ (n i : Nat), i + n = k → Ev (fun q => sleuthlaw13_TreeChain.l0 q a1 (k : Int) (rowI k i fun j : Nat => one ((j : Int) - 1)) (rowI k i fun _ => one 0) (i : Int)) true := by
  intro n
  induction n with
  | zero =>
    intro i hi
    obtain rfl : i = k := by omega
    obtain ⟨eu, m, hm, em⟩ := umod a1 i h0 h1
    have hfan : ((rowI i i fun _ => one 0).set (0 : Int).toNat (⟨(rn (rowI i i fun _ => one 0) 0).f0, (-1), (rn (rowI i i fun _ => one 0) 0).f2, (rn (rowI i i fun _ => one 0) 0).f3⟩ : Nd)) = fanN i := by
      rw [rowI_full, show rn ((List.range i).map fun _ => one 0) 0 = one 0 from rn_map i (fun _ => one 0) 0 h0]
      apply List.ext_getElem
      · simp [fanN]
      · intro j j1 j2
        rw [List.getElem_set]
        simp only [fanN, List.getElem_map, List.getElem_range]
        by_cases c : j = 0
        · subst c; rfl
        · rw [if_neg (show ¬ (0 : Int).toNat = j from fun e => c e.symm), if_neg c]
    have hrow : (rowI i i fun j : Nat => one ((j : Int) - 1)) = rowN i := rowI_full i _
    refine Ev.step (f := fun q => (tree_Size.f q (rowN i) (m : Int)).bind fun bt444 => ((tree_Size.f q (fanN i) (m : Int)).bind fun bt446 => ((tree_Kids.f q (fanN i) (m : Int)).bind fun bt448 => (if (m : Int) = 0 then (sleuthlaw13_TreeChain.j1 q (i : Int) (m : Int) bt444.1 bt444.2 bt446.1 bt446.2 bt448.1 bt448.2 (i : Int)) else (sleuthlaw13_TreeChain.j1 q (i : Int) (m : Int) bt444.1 bt444.2 bt446.1 bt446.2 bt448.1 bt448.2 1))))) (fun q => ?_) ?_
    · rw [sleuthlaw13_TreeChain.l0, if_neg (by omega), if_pos (by show (0 : Int) < ((rowI i i fun _ => one 0).length : Int); simp [rowI]; omega), Option.bind_some, hfan, hrow, eu, if_neg (by omega), em]
    · refine Ev.bind (size_ev (rowN i) (m : Int)) (Ev.bind (size_ev (fanN i) (m : Int)) (Ev.bind (kids_ev (fanN i) (m : Int)) ?_))
      rw [row_size i h0 h1 m hm, fan_size i h0 h1 m hm, show kidsS (fanN i) (m : Int) = (kidsTo (fanN i) (m : Int) i, 0) from by unfold kidsS; rw [if_pos (inT_of (may_fan i h0 h1) (by omega) (by rw [fan_len]; omega)), fan_len]]
      by_cases c : (m : Int) = 0
      · simp only [if_pos c]
        exact chain_end i m h0 h1 hm (i : Int) (by rw [if_pos (by omega)])
      · simp only [if_neg c]
        exact chain_end i m h0 h1 hm 1 (by rw [if_neg (by omega)])
  | succ n ih =>
    intro i hi
    have hw : wrap64 ((i : Int) + 1) = ((i + 1 : Nat) : Int) := by rw [w64 (by omega) (by omega)]; omega
    have hw2 : wrap64 ((i : Int) - 1) = (i : Int) - 1 := w64 (by omega) (by omega)
    refine Ev.step (f := fun q => sleuthlaw13_TreeChain.l0 q a1 (k : Int) (rowI k (i + 1) fun j : Nat => one ((j : Int) - 1)) (rowI k (i + 1) fun _ => one 0) ((i + 1 : Nat) : Int)) (fun q => ?_) (ih (i + 1) (by omega))
    have l1 : ∀ f, ((rowI k i f).length : Int) = (k : Int) := fun f => by simp [rowI]
    have s1 := rowI_set k i (fun j : Nat => one ((j : Int) - 1)) (by omega)
    have s2 := rowI_set k i (fun _ => one 0) (by omega)
    rw [sleuthlaw13_TreeChain.l0, if_pos (by omega), if_pos (by omega), if_pos (by rw [l1]; omega), if_pos (by rw [l1]; omega), hw, hw2, Int.toNat_natCast, ← s1, ← s2]
    rfl
theorem treeChain_pure : sleuthlaw13_TreeChain.Pure := by
  intro a0 a1 _ _
  refine Ev.rounds (g := fun k => sleuthlaw13_TreeChain.f k a0 a1) ?_
  unfold sleuthlaw13_TreeChain.f
  refine Ev.bind awake_ev ?_
  obtain ⟨d, hd, ed⟩ : ∃ d : Nat, d ≤ 31 ∧ Go.bits .and .i64 a0 31 = (d : Int) := by
    have h := and_range a0 31 (by omega)
    rw [show ((31 : Nat) : Int) = 31 from rfl] at h
    exact ⟨(Go.bits .and .i64 a0 31).toNat, by omega, by omega⟩
  have hd1 : wrap64 (1 + (d : Int)) = ((1 + d : Nat) : Int) := by rw [w64 (by omega) (by omega)]; omega
  simp only [if_pos, ed, hd1]
  have g1 : (0 : Int) ≤ ((1 + d : Nat) : Int) := by omega
  have g2 : (((1 + d : Nat) : Int) : Int).toNat ≤ 5026338869833 := by omega
  simp only [if_pos g1, if_pos g2]
  have h := chain_l0 a1 (1 + d) (by omega) (by omega) (1 + d) 0 (by omega)
  rw [rowI_zero, rowI_zero] at h
  rw [Int.toNat_natCast]
  exact h
end Go.Proofs.YtgcdbpnflchobaaDoor.G
