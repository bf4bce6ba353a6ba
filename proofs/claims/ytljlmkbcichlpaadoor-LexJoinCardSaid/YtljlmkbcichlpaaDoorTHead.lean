import Derived.RangeFuncNested
import Derived.RangeFuncBound
import Derived.RangeFuncCalls
import Derived.RangeFuncLeaves
import Derived.RangeFuncBox
import Derived.Shelf.Abstract
import Derived.Shelf.RegionOpen
import Derived.WalkKit
import Derived.OwnWalkIn
import Derived.TacticsInMore
import Derived.LoopNIn
import Derived.LoopIn
import Derived.Maps.AppendAt
import Derived.IntWalk
import Derived.Sort.QuietIn
import Derived.Sort.QuietLawsIn
import Derived.StillTail
import Derived.Test.YtljlmkbcichlpaaDoorWTab
import Derived.Test.YtljlmkbcichlpaaDoorTBase
namespace Go.Proofs.YtljlmkbcichlpaaDoor.G
open Go.RowKit Go.Shelf Go.Proofs.YtljlmkbcichlpaaDoorW.PrintWords Go.Proofs.YtljlmkbcichlpaaDoorW.PrintLast Go.Proofs.YtljlmkbcichlpaaDoorW.PrintMore
set_option linter.unusedVariables false
set_option linter.unusedSimpArgs false
theorem below_dn {B : Nat} {a w : World} (h : Below B a w) (n : Nat) : Below B a (w.drewN n) := ⟨h.os, h.tape, h.output, h.size, h.block⟩
theorem a_ {p : Prop} (h : p) : Aside0 p := ⟨h⟩
theorem hB_ {p : Prop} (x : p := by repeat (first | (with_reducible first | exact HB.out | apply below_alloc | apply pw_below_drewN | apply below_drew1) | exact HB.out)) : p := x
theorem hS_ {p : Prop} (x : p := by exact below_size (by repeat (first | (with_reducible first | exact HB.out | apply below_alloc | apply pw_below_drewN | apply below_drew1) | exact HB.out))) : p := x
theorem hG_ {p : Prop} (x : p := by first | exact hG | exact GOK.below hG (by repeat (first | (with_reducible first | exact HB.out | apply below_alloc | apply pw_below_drewN | apply below_drew1) | exact HB.out))) : p := x
theorem hA_ {p : Prop} (x : p := by first | (with_reducible assumption) | assumption) : p := x
theorem hL_ {p : Prop} (x : p := by (try simp only [List.map_toArray, List.map_cons, List.map_nil]); first | done | rfl | (simp only [List.length_drop, List.length_take]; rfl)) : p := x
theorem hR_ {p q : Prop} (h : q) (x : q → p := by intro hN0_; (with_reducible repeat (first | apply Kd.R_alloc | apply Kd.R_drewN | apply Kd.R_drew)); exact hN0_) : p := x h
theorem hC_ {p : Prop} (x : p := by repeat (first | (with_reducible first | exact HB.out | apply below_alloc | apply pw_below_drewN | apply below_drew1 | refine below_set ?_ (Aside0.out (by assumption))) | exact HB.out)) : p := x
theorem cC_ {p q : Prop} (h : q) (x : q → p := by intro hN0_; repeat (first | exact hN0_ | (with_reducible refine Kd.C_alloc ?_ _) | (with_reducible refine Kd.C_drewN ?_ _) | (with_reducible refine Kd.C_drew ?_))) : p := x h
section
variable {P : Program} {ops : Array Oper} {rest : List Oper} {o : Oper} {a : Act} {Q : Exit → Act → World → Prop}
end
section
variable {W : World} {g t : Nat} {x0 x1 x2 x3 x4 : Value} {l : List Value}
end
theorem ifI_ {α : Type} {p : Prop} [Decidable p] {x : Option α} {r : α} (h : (if p then x else none) = some r) : p ∧ x = some r := by
  by_cases c : p
  · rw [if_pos c] at h; exact ⟨c, h⟩
  · rw [if_neg c] at h; cases h
theorem cl_ {w W : World} {p : Addr} {v : Value} (hb : Below w.heap.size w W) (h : w.cell? p = some v) : W.cell? p = some v := (hb.cell (World.block_lt_of_cell? w _ h)).trans h
section
variable {α : Type} {d : Kd α} {e base g j : Nat} {w : World} {ok : Nat → Prop} {v u : Value} {xs : List α}
end
section
variable {P : Program} {ops : Array Oper} {Q : Exit → Act → World → Prop} {md : Region.Mode} {S : World → Prop} {ds : List Nat} {oi : Oper} {v : Value} {fuel : Nat} {l : Array Bool} {a a' : Act} {w : World} {T : Bool × List (List Nat × List Nat)} {B : List Nat}
theorem pA_ (i : Nat) (K : Tmp) (l' : Array Bool) (hT : rtab md ops = T) (h : wpAnyLast P md ops Q S ds fuel l' a' w) (hi : ops[i]? = some oi := by rfl) (hN : oi.dst = some K := by rfl) (hc : anyT T l.toList l'.toList i = true := by kernel_rfl)
    (hy : Yields P ops oi v a := by refine Or.inl ⟨by rfl, ?_⟩; intro w'; go_simp; with_reducible rfl) (ha : a.put (some K) v = a' := by simp only [Act.put, List.setIfInBounds_toArray, List.set_cons_zero, List.set_cons_succ, i64_w, i32_w]; rfl)
    (hQ : ∀ c a w, Q (.panic c) (a.put oi.dst v) w → Q (.panic c) a w := by exact fun _ _ _ h => h) : wpAnyLast P md ops Q S ds (fuel + 1) l a w := pure_ l' hi hN (any_of hT hc) hQ hy ha h
theorem tA_ (i : Nat) (K : Tmp) (l' : Array Bool) (hT : rtab md ops = T) (hW : waitsOk T.2 B = true) (hS : S w) (h : wpAnyLast P md ops Q S ds fuel l' a' w) (hi : ops[i]? = some oi := by rfl) (hN : oi.dst = some K := by rfl) (hc : takeW T B ds l.toList l'.toList i = true := by kernel_rfl)
    (hy : YieldsIf P ops S oi v a := by refine Or.inl ⟨by rfl, ?_⟩; intro w' hS_; (repeat (obtain ⟨s_, hS_⟩ := hS_)); go_simp; with_reducible rfl) (ha : a.put (some K) v = a' := by simp only [Act.put, List.setIfInBounds_toArray, List.set_cons_zero, List.set_cons_succ, i64_w, i32_w]; rfl)
    (hQ : ∀ c a w, Q (.panic c) (a.put oi.dst v) w → Q (.panic c) a w := by exact fun _ _ _ h => h) : wpAnyLast P md ops Q S ds (fuel + 1) l a w := take_ l' hi hN (take_ofW hT hW hc) hQ hy hS ha h
theorem pB_ (i : Nat) (K : Tmp) (hT : rtab md ops = T) (h : wpAnyLast P md ops Q S ds fuel (l.setIfInBounds i true) a' w) (hi : ops[i]? = some oi := by rfl) (hN : oi.dst = some K := by rfl) (hc : anyT T l.toList (l.setIfInBounds i true).toList i = true := by kernel_rfl)
    (hy : Yields P ops oi v a := by refine Or.inl ⟨by rfl, ?_⟩; intro w'; go_simp; with_reducible rfl) (ha : a.put (some K) v = a' := by simp only [Act.put, List.setIfInBounds_toArray, List.set_cons_zero, List.set_cons_succ, i64_w, i32_w]; rfl)
    (hQ : ∀ c a w, Q (.panic c) (a.put oi.dst v) w → Q (.panic c) a w := by exact fun _ _ _ h => h) : wpAnyLast P md ops Q S ds (fuel + 1) l a w := pA_ i K (l.setIfInBounds i true) hT h hi hN hc hy ha hQ
theorem tB_ (i : Nat) (K : Tmp) (hT : rtab md ops = T) (hW : waitsOk T.2 B = true) (hS : S w) (h : wpAnyLast P md ops Q S ds fuel (l.setIfInBounds i true) a' w) (hi : ops[i]? = some oi := by rfl) (hN : oi.dst = some K := by rfl) (hc : takeW T B ds l.toList (l.setIfInBounds i true).toList i = true := by kernel_rfl)
    (hy : YieldsIf P ops S oi v a := by refine Or.inl ⟨by rfl, ?_⟩; intro w' hS_; (repeat (obtain ⟨s_, hS_⟩ := hS_)); go_simp; with_reducible rfl) (ha : a.put (some K) v = a' := by simp only [Act.put, List.setIfInBounds_toArray, List.set_cons_zero, List.set_cons_succ, i64_w, i32_w]; rfl)
    (hQ : ∀ c a w, Q (.panic c) (a.put oi.dst v) w → Q (.panic c) a w := by exact fun _ _ _ h => h) : wpAnyLast P md ops Q S ds (fuel + 1) l a w := tA_ i K (l.setIfInBounds i true) hT hW hS h hi hN hc hy ha hQ
end
theorem hV_ {p : Prop} (x : p := by first | rfl | (simp [errW_none, errW_some] <;> rfl) | (simp [*, errW_none, errW_some] <;> rfl)) : p := x
theorem hW_ {p : Prop} (x : p := by first | rfl | (simp; done) | (simp [*]; done)) : p := x
def tailB (ops : Array Oper) : Nat → Nat → Array Bool → Bool
  | 0, _, m => (Region.ready .any ops m).isEmpty
  | g + 1, k, m => decide (Region.ready .any ops m = [k]) && tailB ops g (k + 1) (m.setIfInBounds k true)
def guardB (n : Nat) (o : Oper) : Bool := match o.guard with | none => true | some (j, _) => decide (j < n)
def depB (ops : Array Oper) (n : Nat) : Bool := (List.range n).all fun k => match ops[k]? with | some o => o.after.all fun e => !Region.binds .any e || decide (e.on < k) | none => false
def doneM (s n : Nat) : Array Bool := ((List.replicate n true) ++ (List.replicate (s - n) false)).toArray
def headAllB (l : List Oper) (n : Nat) : Bool :=
  decide (n < l.length) && (l.take n).all (guardB n) && Region.noSelect (l.take n).toArray && Region.lexB .any (l.take n).toArray && depB (l.take n).toArray n && Region.sinkB .any l.toArray n && Region.chainB .any l.toArray n && tailB l.toArray (l.length - n) n (doneM l.length n)
section
variable {F : Fence} {r : Nat} {P : Program} {Q' : Exit → Act → World → Prop} {C : World → Prop} {Q : Act → Prop}
theorem any_of_tail {ops : Array Oper} (x : Nat) : ∀ (l : List Oper) (k : Nat) (m : Array Bool) (a : Act) (w : World), (∀ j, l[j]? = ops[k + j]?) → tailB ops l.length k m = true → wpListIn F r P ops Q' l a w → wpAnyIn F r P .any ops Q' (l.length + x) m a w
  | [], k, m, a, w, _, hB, h => wpAnyIn_done (by simpa [tailB] using hB) h _
  | o :: l, k, m, a, w, hl, hB, h => by
    have h0 : ops[k]? = some o := by simpa using (hl 0).symm
    simp only [List.length_cons, tailB, Bool.and_eq_true, decide_eq_true_eq] at hB
    rw [List.length_cons, show l.length + 1 + x = (l.length + x) + 1 by omega]
    refine And.intro (fun h1 => absurd (hB.1.symm.trans h1) (by simp)) (fun i hi => ?_)
    rw [hB.1, List.mem_singleton] at hi
    subst hi
    refine wpOpIn_mono (K := wpListIn F r P ops Q' l) (fun a' w' h' => any_of_tail x l (i + 1) _ a' w' (fun j => by have := hl (j + 1); simpa [Nat.add_assoc, Nat.add_comm 1 j] using this) hB.2 h') ?_
    unfold wpOpIn
    rw [h0]
    exact h
theorem op_of_head {ops opsH : Array Oper} {n i : Nat} (hi : i < n) (heq : ∀ j, j < n → ops[j]? = opsH[j]?) (hg : ∀ o, opsH[i]? = some o → guardB n o = true) {K : Act → World → Prop} {a : Act} {w : World} (h : wpOpIn F r P opsH Q' i K a w) : wpOpIn F r P ops Q' i K a w := by
  unfold wpOpIn at h ⊢
  rw [heq i hi]
  cases ho : opsH[i]? with
  | none => rw [ho] at h; exact h
  | some o =>
    rw [ho] at h
    have hw : Region.wanted o (yielded ops a.tmps) = Region.wanted o (yielded opsH a.tmps) := by
      have h1 := hg o ho
      unfold guardB at h1
      unfold Region.wanted
      cases hgd : o.guard with
      | none => rfl
      | some p =>
        obtain ⟨j, b⟩ := p
        rw [hgd] at h1
        have : yielded ops a.tmps j = yielded opsH a.tmps j := by unfold yielded; rw [heq j (of_decide_eq_true h1)]
        simp only [this]
    simp only [hw]
    exact h
theorem getD_size {m : Array Bool} {j : Nat} {d d' : Bool} (h : j < m.size) : m.getD j d = m.getD j d' := by simp [h]
theorem head_listed {opsH : Array Oper} {n : Nat} (hd : depB opsH n = true) {mH : Array Bool} (hsz : mH.size = n) (hr : Region.ready .any opsH mH = []) : ∀ j, j < n → mH.getD j false = true := by
  intro j
  induction j using Nat.strongRecOn with
  | _ j ih =>
    intro hj
    cases hv : mH.getD j false with
    | true => rfl
    | false =>
      exfalso
      have hk := List.all_eq_true.1 hd j (List.mem_range.2 hj)
      cases ho : opsH[j]? with
      | none => rw [ho] at hk; simp at hk
      | some o =>
        rw [ho] at hk
        have : j ∈ Region.ready .any opsH mH := mem_ready.2 ⟨(getD_size (by omega)).trans hv, o, ho, fun e he hb => by
          have h1 := Array.all_eq_true'.1 hk e he
          rw [hb] at h1
          simp only [Bool.not_true, Bool.false_or, decide_eq_true_eq] at h1
          exact ih e.on h1 (by omega)⟩
        rw [hr] at this
        cases this
theorem doneM_eq {s n : Nat} (hn : n ≤ s) {m : Array Bool} (hm : m.size = s) (h1 : ∀ j, j < n → m.getD j false = true) (h2 : ∀ t, n ≤ t → t < s → m.getD t true = false) : m = doneM s n := by
  unfold doneM
  apply Array.ext
  · simp [hm]; omega
  · intro i hi1 hi2
    have e1 : ((List.replicate n true) ++ (List.replicate (s - n) false)).toArray[i] = ((List.replicate n true) ++ (List.replicate (s - n) false))[i]'(by simpa using hi2) := by simp
    rw [e1]
    rcases Nat.lt_or_ge i n with c | c
    · have := h1 i c
      rw [List.getElem_append_left (by simpa using c), List.getElem_replicate]
      simpa [hi1] using this
    · have := h2 i c (by omega)
      rw [List.getElem_append_right (by simpa using c), List.getElem_replicate]
      simpa [hi1] using this
theorem head_sim (hro : F.round = none) {ops opsH : Array Oper} {n g : Nat} (hn : n < ops.size) (hszH : opsH.size = n) (heq : ∀ j, j < n → ops[j]? = opsH[j]?) (hg : ∀ (i : Nat) (o : Oper), opsH[i]? = some o → guardB n o = true) (hd : depB opsH n = true)
    (hs : Region.sinkB .any ops n = true) (hc : Region.chainB .any ops n = true)
    (hT : ∀ x a w, C w → Q a → wpAnyIn F r P .any ops Q' (g + x) (doneM ops.size n) a w) :
    ∀ (f : Nat) (m mH : Array Bool) (a : Act) (w : World), HeadInv .any ops n m → mH.size = n → (∀ j, j < n → m.getD j false = mH.getD j false) → C w → wpAnyQIn F r P .any opsH C Q f mH a → wpAnyIn F r P .any ops Q' (f + g) m a w := by
  have fin : ∀ (m mH : Array Bool), HeadInv .any ops n m → mH.size = n → (∀ j, j < n → m.getD j false = mH.getD j false) → Region.ready .any opsH mH = [] → m = doneM ops.size n := fun m mH inv hsz hrel hr =>
    doneM_eq (by omega) inv.size (fun j hj => (hrel j hj).trans (head_listed hd hsz hr j hj)) inv.tail
  intro f
  induction f with
  | zero =>
    intro m mH a w inv hsz hrel hC h
    rw [fin m mH inv hsz hrel h.1, Nat.zero_add]
    exact hT 0 a w hC h.2
  | succ f ih =>
    intro m mH a w inv hsz hrel hC h
    by_cases hr : Region.ready .any opsH mH = []
    · rw [fin m mH inv hsz hrel hr, Nat.add_comm (f + 1) g]
      exact hT (f + 1) a w hC (h.1 hr)
    · obtain ⟨i0, hi0⟩ := List.exists_mem_of_ne_nil _ hr
      have hlt0 : ∀ i, i ∈ Region.ready .any opsH mH → i < n ∧ i ∈ Region.ready .any ops m := fun i hi => by
        obtain ⟨h1, o, ho, h2⟩ := mem_ready.1 hi
        have hin : i < n := by have := (Array.getElem?_eq_some_iff.1 ho).1; omega
        refine ⟨hin, mem_ready.2 ⟨?_, o, (heq i hin).trans ho, fun e he hb => ?_⟩⟩
        · rw [getD_size (d' := false) (by rw [inv.size]; omega), hrel i hin, getD_size (d' := true) (by omega)]; exact h1
        · have h3 := h2 e he hb
          have : e.on < n := by
            rcases Nat.lt_or_ge e.on n with c | c
            · exact c
            · rw [Array.getD_eq_getD_getElem?, Array.getElem?_eq_none (by omega)] at h3; simp at h3
          rw [hrel e.on this]; exact h3
      have hun : ∀ t, n ≤ t → t ∉ Region.ready .any ops m := tail_waits hs hc hn inv (n - i0) i0 rfl (hlt0 i0 hi0).1 (mem_ready.1 (hlt0 i0 hi0).2).1
      have hback : ∀ i, i ∈ Region.ready .any ops m → i < n ∧ i ∈ Region.ready .any opsH mH := fun i hi => by
        have hin : i < n := by
          rcases Nat.lt_or_ge i n with c | c
          · exact c
          · exact absurd hi (hun i c)
        obtain ⟨h1, o, ho, h2⟩ := mem_ready.1 hi
        refine ⟨hin, mem_ready.2 ⟨?_, o, (heq i hin).symm.trans ho, fun e he hb => ?_⟩⟩
        · rw [getD_size (d' := false) (by omega), ← hrel i hin, getD_size (d' := true) (by rw [inv.size]; omega)]; exact h1
        · have h3 := h2 e he hb
          have : e.on < n := by
            have hk := List.all_eq_true.1 hd i (List.mem_range.2 hin)
            rw [(heq i hin).symm.trans ho] at hk
            have h4 := Array.all_eq_true'.1 hk e he
            rw [hb] at h4
            simp only [Bool.not_true, Bool.false_or, decide_eq_true_eq] at h4
            omega
          rw [← hrel e.on this]; exact h3
      rw [show f + 1 + g = (f + g) + 1 by omega]
      refine And.intro (fun h0 => absurd ((hlt0 i0 hi0).2) (by rw [h0]; simp)) (fun i hi => ?_)
      obtain ⟨hin, hiH⟩ := hback i hi
      have hq := h.2 i hiH
      refine op_of_head hin heq (hg i) (wpOpIn_of_qOpIn (Q' := Q') hro hC (fun a' w' hw' h' => ih _ _ a' w' (inv.set hi hin) (by simpa using hsz) (fun j hj => ?_) hw' h') hq)
      by_cases hij : i = j
      · subst hij
        simp [inv.size, hsz, hin]
        try omega
      · rw [getD_set_ne false hij, getD_set_ne false hij]; exact hrel j hj
theorem wpIn_region_head {id : Nat} {a : Act} {w : World} {l : List Oper} (n : Nat) (hro : F.round = none) (hm : P.follows .mixedOrders = true) (hB : headAllB l n = true)
    (h : wpQuietIn F r P (l.take n).toArray (fun w' => ∃ k, w' = w.drewN k) (fun a' => ∀ w', (∃ k, w' = w.drewN k) → wpListIn F r P l.toArray Q' (l.drop n) a' w') (l.take n) a) : (Code.region id l.toArray true).wpIn F r P Q' a w := by
  simp only [headAllB, Bool.and_eq_true, decide_eq_true_eq] at hB
  obtain ⟨⟨⟨⟨⟨⟨⟨hn, hg⟩, hs⟩, hlex⟩, hd⟩, hsk⟩, hch⟩, htb⟩ := hB
  have htl : (l.take n).length = n := by rw [List.length_take, Nat.min_eq_left (by omega)]
  have hdl : (l.drop n).length = l.length - n := List.length_drop
  simp only [Region.lexB, Bool.and_eq_true] at hlex
  have H := wpAnyQIn_lex (F := F) (n := r) (P := P) (md := .any) hs (l.take n) 0 (Array.replicate (l.take n).toArray.size false) a (by simp) (by simpa using hlex.2) h
  rw [htl] at H
  have heq : ∀ j, j < n → l.toArray[j]? = (l.take n).toArray[j]? := fun j hj => by simp [hj]
  have hg' : ∀ (i : Nat) (o : Oper), (l.take n).toArray[i]? = some o → guardB n o = true := fun i o ho => List.all_eq_true.1 hg o (List.mem_of_getElem? (i := i) (by rw [List.getElem?_toArray] at ho; exact ho))
  have inv0 : HeadInv .any l.toArray n (Array.replicate l.length false) :=
    ⟨by simp, fun j oj _ hl => (by rw [getD_replicate_false] at hl; cases hl), fun t _ ht => getD_in (by simpa using ht) (getD_replicate_false _ _)⟩
  have := head_sim (Q' := Q') (C := fun w' => ∃ k, w' = w.drewN k) (Q := fun a' => ∀ w', (∃ k, w' = w.drewN k) → wpListIn F r P l.toArray Q' (l.drop n) a' w') hro (ops := l.toArray) (g := l.length - n) (by simpa using hn) (by simp; omega) heq hg' hd hsk hch (fun x a' w' hC' hQ => by
    have := any_of_tail (F := F) (r := r) (P := P) (Q' := Q') (ops := l.toArray) x (l.drop n) n (doneM l.length n) a' w' (fun j => by simp [List.getElem?_drop]) (by rw [hdl]; exact htb) (hQ w' hC')
    rw [hdl] at this
    rw [List.size_toArray]
    exact this) n (Array.replicate l.length false) (Array.replicate (l.take n).toArray.size false) a (w.drewN 1) inv0 (by simp; omega) (fun j hj => by rw [getD_replicate_false, getD_replicate_false]) ⟨1, rfl⟩ H
  rw [show n + (l.length - n) = l.length by omega] at this
  exact wpIn_region_any hm (by rw [List.size_toArray]; exact this)
end
end Go.Proofs.YtljlmkbcichlpaaDoor.G
