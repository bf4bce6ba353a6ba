import Derived.RangeFuncNested
import Derived.RangeFuncBound
import Derived.RangeFuncCalls
import Derived.RangeFuncLeaves
import Derived.RangeFuncBox
import Derived.Shelf.Abstract
import Derived.Shelf.RegionOpen
import Derived.WalkKit
import Derived.OwnWalkIn
import Derived.TacticsInMore
import Derived.LoopNIn
import Derived.LoopIn
import Derived.Maps.AppendAt
import Derived.IntWalk
import Derived.Sort.QuietIn
import Derived.Sort.QuietLawsIn
import Derived.StillTail
import Derived.Test.YtnhmmbgnaogokaaDoorWTab
import Derived.Test.YtnhmmbgnaogokaaDoorTBase
namespace Go.Proofs.YtnhmmbgnaogokaaDoor.G
open Go.RowKit Go.Shelf Go.Proofs.YtnhmmbgnaogokaaDoorW.PrintWords Go.Proofs.YtnhmmbgnaogokaaDoorW.PrintLast Go.Proofs.YtnhmmbgnaogokaaDoorW.PrintMore
set_option linter.unusedVariables false
set_option linter.unusedSimpArgs false
theorem below_dn {B : Nat} {a w : World} (h : Below B a w) (n : Nat) : Below B a (w.drewN n) := ⟨h.os, h.tape, h.output, h.size, h.block⟩
theorem a_ {p : Prop} (h : p) : Aside0 p := ⟨h⟩
theorem hB_ {p : Prop} (x : p := by repeat (first | (with_reducible first | exact HB.out | apply below_alloc | apply pw_below_drewN | apply below_drew1) | exact HB.out)) : p := x
theorem hS_ {p : Prop} (x : p := by exact below_size (by repeat (first | (with_reducible first | exact HB.out | apply below_alloc | apply pw_below_drewN | apply below_drew1) | exact HB.out))) : p := x
theorem hG_ {p : Prop} (x : p := by first | exact hG | exact GOK.below hG (by repeat (first | (with_reducible first | exact HB.out | apply below_alloc | apply pw_below_drewN | apply below_drew1) | exact HB.out))) : p := x
theorem hA_ {p : Prop} (x : p := by first | (with_reducible assumption) | assumption) : p := x
theorem hL_ {p : Prop} (x : p := by (try simp only [List.map_toArray, List.map_cons, List.map_nil]); first | done | rfl | (simp only [List.length_drop, List.length_take]; rfl)) : p := x
theorem hN_ {p q : Prop} (h : q) (x : q → p := by intro hN0_; (with_reducible repeat (first | apply Kd.N_alloc | apply Kd.N_drewN | apply Kd.N_drew)); exact hN0_) : p := x h
theorem hR_ {p q : Prop} (h : q) (x : q → p := by intro hN0_; (with_reducible repeat (first | apply Kd.R_alloc | apply Kd.R_drewN | apply Kd.R_drew)); exact hN0_) : p := x h
theorem hC_ {p : Prop} (x : p := by repeat (first | (with_reducible first | exact HB.out | apply below_alloc | apply pw_below_drewN | apply below_drew1 | refine below_set ?_ (Aside0.out (by assumption))) | exact HB.out)) : p := x
theorem hK_ {p q : Prop} (h : q) (x : q → p := by intro hN0_; (with_reducible repeat (first | refine blk_drewN ?_ _ | refine blk_drew ?_ | refine blk_alloc ?_ _)); exact hN0_) : p := x h
theorem bB_ {W0 W w1 : World} {g : Nat} {o : Obj} (h : W0.heap[g]? = some o) (hb : Below W.heap.size W w1) (x : W0.heap[g]? = some o → W.heap[g]? = some o := by intro hN0_; (with_reducible repeat (first | refine blk_drewN ?_ _ | refine blk_drew ?_ | refine blk_alloc ?_ _)); exact hN0_) : w1.heap[g]? = some o := blk_below (x h) hb
theorem bL_ {W0 W : World} {g g' : Nat} {o : Obj} (h : W0.heap[g]? = some o) (hg : g' = W.heap.size) (x : W0.heap[g]? = some o → W.heap[g]? = some o := by intro hN0_; (with_reducible repeat (first | refine blk_drewN ?_ _ | refine blk_drew ?_ | refine blk_alloc ?_ _)); exact hN0_) : g ≠ g' := by rw [hg]; exact Nat.ne_of_lt (blk_lt (x h))
theorem bG_ {W0 W : World} {g g' : Nat} {o : Obj} (h : W0.heap[g]? = some o) (hg : g' = W.heap.size) (x : W0.heap[g]? = some o → W.heap[g]? = some o := by intro hN0_; (with_reducible repeat (first | refine blk_drewN ?_ _ | refine blk_drew ?_ | refine blk_alloc ?_ _)); exact hN0_) : g' ≠ g := by rw [hg]; exact Nat.ne_of_gt (blk_lt (x h))
theorem gE_ {w W : World} {g' : Nat} (hg : g' = W.heap.size) (x : Below w.heap.size w W := by repeat (first | (with_reducible first | exact HB.out | apply below_alloc | apply pw_below_drewN | apply below_drew1 | refine below_set ?_ (Aside0.out (by assumption))) | exact HB.out)) : w.heap.size ≤ g' := by rw [hg]; exact below_size x
theorem cB_ {p q : Prop} (h : q) (x : q → p := by intro hN0_; repeat (first | exact (Kd.C_below hN0_ HB.out) | (with_reducible refine Kd.C_alloc ?_ _) | (with_reducible refine Kd.C_drewN ?_ _) | (with_reducible refine Kd.C_drew ?_))) : p := x h
theorem cC_ {p q : Prop} (h : q) (x : q → p := by intro hN0_; repeat (first | exact hN0_ | (with_reducible refine Kd.C_alloc ?_ _) | (with_reducible refine Kd.C_drewN ?_ _) | (with_reducible refine Kd.C_drew ?_))) : p := x h
section
variable {P : Program} {ops : Array Oper} {rest : List Oper} {o : Oper} {a : Act} {Q : Exit → Act → World → Prop}
theorem boxE_ {W : World} (N : Tmp) (cs : Array Value) (t : TypeId) (h : ∀ g, g = W.heap.size → ∀ w1, w1.heap[g]? = some (.cells cs t (0, 0)) → Below W.heap.size W w1 → wpList P ops Q rest (a.put o.dst (.pointer (some ⟨g, 0, none⟩))) w1)
    (hd : o.dst = some N := by rfl) (hg : o.guard = none := by rfl) (hr : (execOp a.eval o).run P W = .ok (.value (.pointer (some ⟨W.heap.size, 0, none⟩))) (W.alloc (.cells cs t (0, 0))) := by first | (go_simp; done) | (go_simp; rfl)) : wpList P ops Q (o :: rest) a W := box_event hg hd hr h
end
section
variable {W : World} {g t : Nat} {x0 x1 x2 x3 x4 : Value} {l : List Value}
theorem bc0_ (h : W.heap[g]? = some (.cells (x0 :: l).toArray t (0, 0))) : W.cell? ⟨g, 0, none⟩ = some x0 := (blk_cell h 0).trans rfl
theorem bc1_ (h : W.heap[g]? = some (.cells (x0 :: x1 :: l).toArray t (0, 0))) : W.cell? ⟨g, 1, none⟩ = some x1 := (blk_cell h 1).trans rfl
theorem bc2_ (h : W.heap[g]? = some (.cells (x0 :: x1 :: x2 :: l).toArray t (0, 0))) : W.cell? ⟨g, 2, none⟩ = some x2 := (blk_cell h 2).trans rfl
theorem bc3_ (h : W.heap[g]? = some (.cells (x0 :: x1 :: x2 :: x3 :: l).toArray t (0, 0))) : W.cell? ⟨g, 3, none⟩ = some x3 := (blk_cell h 3).trans rfl
end
theorem ifI_ {α : Type} {p : Prop} [Decidable p] {x : Option α} {r : α} (h : (if p then x else none) = some r) : p ∧ x = some r := by
  by_cases c : p
  · rw [if_pos c] at h; exact ⟨c, h⟩
  · rw [if_neg c] at h; cases h
theorem cl_ {w W : World} {p : Addr} {v : Value} (hb : Below w.heap.size w W) (h : w.cell? p = some v) : W.cell? p = some v := (hb.cell (World.block_lt_of_cell? w _ h)).trans h
theorem bP_ {w : World} {g t i : Nat} {cs cs' : Array Value} {u : Value} (h : w.heap[g]? = some (.cells cs t (0, 0))) (e : cs.setIfInBounds i u = cs' := by rfl) : (w.setCell ⟨g, i, none⟩ u).heap[g]? = some (.cells cs' t (0, 0)) := blk_put h i u e
theorem bF_ {w : World} {g t : Nat} {cs : Array Value} {p : Addr} {u : Value} (h : w.heap[g]? = some (.cells cs t (0, 0))) (hp : g ≠ p.block) : (w.setCell p u).heap[g]? = some (.cells cs t (0, 0)) := blk_far h hp u
section
variable {α : Type} {d : Kd α} {e base g j : Nat} {w : World} {ok : Nat → Prop} {v u : Value} {xs : List α}
theorem rF_ (h : d.R e w base (fun k => ok k ∧ k ≠ g) v xs) : d.R e (w.setCell ⟨g, j, none⟩ u) base (fun k => ok k ∧ k ≠ g) v xs := Kd.R_far (p := ⟨g, j, none⟩) h (fun _ hk => hk.2) u
end
section
variable {P : Program} {ops : Array Oper} {Q : Exit → Act → World → Prop} {md : Region.Mode} {S : World → Prop} {ds : List Nat} {oi : Oper} {v : Value} {fuel : Nat} {l : Array Bool} {a a' : Act} {w : World} {T : Bool × List (List Nat × List Nat)} {B : List Nat}
theorem pA_ (i : Nat) (K : Tmp) (l' : Array Bool) (hT : rtab md ops = T) (h : wpAnyLast P md ops Q S ds fuel l' a' w) (hi : ops[i]? = some oi := by rfl) (hN : oi.dst = some K := by rfl) (hc : anyT T l.toList l'.toList i = true := by kernel_rfl)
    (hy : Yields P ops oi v a := by refine Or.inl ⟨by rfl, ?_⟩; intro w'; go_simp; with_reducible rfl) (ha : a.put (some K) v = a' := by simp only [Act.put, List.setIfInBounds_toArray, List.set_cons_zero, List.set_cons_succ, i64_w, i32_w]; rfl)
    (hQ : ∀ c a w, Q (.panic c) (a.put oi.dst v) w → Q (.panic c) a w := by exact fun _ _ _ h => h) : wpAnyLast P md ops Q S ds (fuel + 1) l a w := pure_ l' hi hN (any_of hT hc) hQ hy ha h
theorem tA_ (i : Nat) (K : Tmp) (l' : Array Bool) (hT : rtab md ops = T) (hW : waitsOk T.2 B = true) (hS : S w) (h : wpAnyLast P md ops Q S ds fuel l' a' w) (hi : ops[i]? = some oi := by rfl) (hN : oi.dst = some K := by rfl) (hc : takeW T B ds l.toList l'.toList i = true := by kernel_rfl)
    (hy : YieldsIf P ops S oi v a := by refine Or.inl ⟨by rfl, ?_⟩; intro w' hS_; (repeat (obtain ⟨s_, hS_⟩ := hS_)); go_simp; with_reducible rfl) (ha : a.put (some K) v = a' := by simp only [Act.put, List.setIfInBounds_toArray, List.set_cons_zero, List.set_cons_succ, i64_w, i32_w]; rfl)
    (hQ : ∀ c a w, Q (.panic c) (a.put oi.dst v) w → Q (.panic c) a w := by exact fun _ _ _ h => h) : wpAnyLast P md ops Q S ds (fuel + 1) l a w := take_ l' hi hN (take_ofW hT hW hc) hQ hy hS ha h
theorem pB_ (i : Nat) (K : Tmp) (hT : rtab md ops = T) (h : wpAnyLast P md ops Q S ds fuel (l.setIfInBounds i true) a' w) (hi : ops[i]? = some oi := by rfl) (hN : oi.dst = some K := by rfl) (hc : anyT T l.toList (l.setIfInBounds i true).toList i = true := by kernel_rfl)
    (hy : Yields P ops oi v a := by refine Or.inl ⟨by rfl, ?_⟩; intro w'; go_simp; with_reducible rfl) (ha : a.put (some K) v = a' := by simp only [Act.put, List.setIfInBounds_toArray, List.set_cons_zero, List.set_cons_succ, i64_w, i32_w]; rfl)
    (hQ : ∀ c a w, Q (.panic c) (a.put oi.dst v) w → Q (.panic c) a w := by exact fun _ _ _ h => h) : wpAnyLast P md ops Q S ds (fuel + 1) l a w := pA_ i K (l.setIfInBounds i true) hT h hi hN hc hy ha hQ
theorem tB_ (i : Nat) (K : Tmp) (hT : rtab md ops = T) (hW : waitsOk T.2 B = true) (hS : S w) (h : wpAnyLast P md ops Q S ds fuel (l.setIfInBounds i true) a' w) (hi : ops[i]? = some oi := by rfl) (hN : oi.dst = some K := by rfl) (hc : takeW T B ds l.toList (l.setIfInBounds i true).toList i = true := by kernel_rfl)
    (hy : YieldsIf P ops S oi v a := by refine Or.inl ⟨by rfl, ?_⟩; intro w' hS_; (repeat (obtain ⟨s_, hS_⟩ := hS_)); go_simp; with_reducible rfl) (ha : a.put (some K) v = a' := by simp only [Act.put, List.setIfInBounds_toArray, List.set_cons_zero, List.set_cons_succ, i64_w, i32_w]; rfl)
    (hQ : ∀ c a w, Q (.panic c) (a.put oi.dst v) w → Q (.panic c) a w := by exact fun _ _ _ h => h) : wpAnyLast P md ops Q S ds (fuel + 1) l a w := tA_ i K (l.setIfInBounds i true) hT hW hS h hi hN hc hy ha hQ
end
theorem hV_ {p : Prop} (x : p := by first | rfl | (simp [errW_none, errW_some] <;> rfl) | (simp [*, errW_none, errW_some] <;> rfl)) : p := x
theorem hW_ {p : Prop} (x : p := by first | rfl | (simp; done) | (simp [*]; done)) : p := x
theorem bx4_ {W : World} {g t : Nat} {x0 x1 x2 x3 : Value} (h : W.heap[g]? = some (.cells #[x0, x1, x2, x3] t (0, 0))) : W.cell? ⟨g, 0, none⟩ = some x0 ∧ W.cell? ⟨g, 1, none⟩ = some x1 ∧ W.cell? ⟨g, 2, none⟩ = some x2 ∧ W.cell? ⟨g, 3, none⟩ = some x3 ∧ W.frozen? ⟨g, 0, none⟩ = false ∧ W.frozen? ⟨g, 1, none⟩ = false ∧ W.frozen? ⟨g, 2, none⟩ = false ∧ W.frozen? ⟨g, 3, none⟩ = false := ⟨(blk_cell h 0).trans rfl, (blk_cell h 1).trans rfl, (blk_cell h 2).trans rfl, (blk_cell h 3).trans rfl, blk_frozen h 0, blk_frozen h 1, blk_frozen h 2, blk_frozen h 3⟩
section
variable {F : Fence} {r : Nat} {P : Program} {Q' : Exit → Act → World → Prop} {C : World → Prop} {Q : Act → Prop}
end
end Go.Proofs.YtnhmmbgnaogokaaDoor.G
