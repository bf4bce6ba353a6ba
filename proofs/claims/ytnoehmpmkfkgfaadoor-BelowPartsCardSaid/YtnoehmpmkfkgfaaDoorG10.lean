-- Laid by the session's own driver gp.py over the kit's printer. Not trusted: Lean checks it.
import Derived.Test.YtnoehmpmkfkgfaaDoorG0
import Derived.Test.YtnoehmpmkfkgfaaDoorG9
namespace Go.Proofs.YtnoehmpmkfkgfaaDoor.G
open Go.RowKit Go.Proofs.YtnoehmpmkfkgfaaDoorW.PrintWords Go.Proofs.YtnoehmpmkfkgfaaDoorW.PrintLast Go.Proofs.YtnoehmpmkfkgfaaDoorW.PrintMore
attribute [local go_sem] max2_int min2_int max_two min_two max_three min_three max_four min_four   -- for this text's walks alone
set_option linter.unusedVariables false
set_option linter.unusedSimpArgs false

/-! ### below_under: function 29, given -/
def slices_EqualFunc.l0 (F : ByteArray → ByteArray → Option Bool) : Nat → List ByteArray → List ByteArray → Int → Option Bool
  | 0, _, _, _ => none
  | k + 1, x0, x1, x7 => if x7 < (x0.length : Int) then (if 0 ≤ x7 then (if x7 < (x1.length : Int) then ((F (rdOf ByteArray.empty x0 x7) (rdOf ByteArray.empty x1 x7)).bind fun t => (if t = true then (slices_EqualFunc.l0 F k x0 x1 (wrap64 (x7 + 1))) else (some false))) else none) else none) else some true
def slices_EqualFunc.f (F : ByteArray → ByteArray → Option Bool) (k : Nat) (l0 l1 : List ByteArray) : Option Bool := if (l0.length : Int) = (l1.length : Int) then slices_EqualFunc.l0 F k l0 l1 0 else some false
set_option maxHeartbeats 8000000 in
set_option maxRecDepth 100000 in
theorem slices_EqualFunc.calls (F : ByteArray → ByteArray → Option Bool)
    (hF : ∀ (a b : ByteArray) (r : Bool) (W : World), F a b = some r → GOK W → Calls Tryd.prog 29 #[.string a, .string b] W fun e w' => e = .returned (.bool r) ∧ Below W.heap.size W w')
    (k : Nat) (A0 : Option Addr) (c0 : Nat) (l0 : List ByteArray) (A1 : Option Addr) (c1 : Nat) (l1 : List ByteArray) (r : Bool) (w : World) (hr0 : Kd.C Kd.string w A0 l0.length l0) (hc0 : l0.length ≤ c0) (hr1 : Kd.C Kd.string w A1 l1.length l1) (hc1 : l1.length ≤ c1) (h : slices_EqualFunc.f F k l0 l1 = some r) (hG : GOK w) :
    Calls Tryd.prog 50 #[.slice A0 l0.length c0, .slice A1 l1.length c1, .func (.func 29) #[] #[]] w fun e w' => e = .returned (.bool r) ∧ Below w.heap.size w w' := by
  have HF := Aside0.mk hF
  clear hF
  have HR0 := Aside0.mk hr0
  have HC0 := Aside0.mk hc0
  clear hr0 hc0
  have HR1 := Aside0.mk hr1
  have HC1 := Aside0.mk hc1
  clear hr1 hc1
  have HB := Aside0.mk (Below.refl w.heap.size w)
  have H : (if (l0.length : Int) = (l1.length : Int) then (slices_EqualFunc.l0 F k l0 l1 0) else (some false)) = some r := h
  clear h
  by_cases c3 : (l0.length : Int) = (l1.length : Int)
  · rw [if_pos c3] at H
    have c3b0 : ((l0.length : Int) == (l1.length : Int)) = true := beq_iff_eq.mpr c3
    have c3b1 : ((l0.length : Int) != (l1.length : Int)) = false := bne_eq_false_iff_eq.mpr c3
    have c3b2 : (l0.length == l1.length) = true := by first | simpa using c3 | (simp at c3 ⊢; omega)
    clear c3
    have H' := Aside0.mk H
    clear H
    go_enter Tryd.func50, Tryd.ntmps50
    go_wp2
    repeat (go_quiet (fail); try go_wp2)
    go_loopg [17] k (fun kq v17 w' => ∃ (x7_1 : Int), v17 = .int .i64 x7_1 ∧ Aside0 (slices_EqualFunc.l0 F kq l0 l1 x7_1 = some r) ∧ Aside0 (kq ≤ k) ∧ Aside0 (Below w.heap.size w w'))
    case atStart => exact ⟨(0), rfl, H', ⟨Nat.le_refl _⟩, ⟨by repeat (first | exact HB.out | apply below_alloc | apply pw_below_drewN | apply below_drew1)⟩⟩
    case round =>
      clear H' HB
      obtain ⟨x7_1, rfl, HA, HK1, HB⟩ := hrel
      cases gk with
      | zero => exact absurd HA.out (by simp [slices_EqualFunc.l0])
      | succ k1 =>
        have H := HA.out
        clear HA
        simp only [slices_EqualFunc.l0] at H
        by_cases c4 : x7_1 < (l0.length : Int)
        · rw [if_pos c4] at H
          have c4b0 : decide (x7_1 < (l0.length : Int)) = true := decide_eq_true c4
          clear c4
          by_cases c5 : 0 ≤ x7_1
          · rw [if_pos c5] at H
            have c5b0 : decide (0 ≤ x7_1) = true := decide_eq_true c5
            clear c5
            by_cases c6 : x7_1 < (l1.length : Int)
            · rw [if_pos c6] at H
              have c6b0 : decide (x7_1 < (l1.length : Int)) = true := decide_eq_true c6
              clear c6
              replace H := Option.bind_eq_some_iff.mp H
              obtain ⟨t, A70, H⟩ := H
              have A7 := Aside0.mk A70
              clear A70
              have p381 : 0 ≤ (x7_1 : Int) := of_decide_eq_true (by first | (with_reducible assumption) | assumption)
              have q381 : x7_1 < (l0.length : Int) := of_decide_eq_true (by first | (with_reducible assumption) | assumption)
              obtain ⟨ad381, e381, hx381_0⟩ := Kd.at_string HR0.out x7_1 p381 q381
              cases e381
              replace hx381_0 := (HB.out.cell (World.block_lt_of_cell? w _ hx381_0)).trans hx381_0
              replace p381 := eq_true p381
              replace q381 := eq_true q381
              have p382 : 0 ≤ (x7_1 : Int) := of_decide_eq_true (by first | (with_reducible assumption) | assumption)
              have q382 : x7_1 < (l1.length : Int) := of_decide_eq_true (by first | (with_reducible assumption) | assumption)
              obtain ⟨ad382, e382, hx382_0⟩ := Kd.at_string HR1.out x7_1 p382 q382
              cases e382
              replace hx382_0 := (HB.out.cell (World.block_lt_of_cell? w _ hx382_0)).trans hx382_0
              replace p382 := eq_true p382
              replace q382 := eq_true q382
              cases t with
              | true =>
                have H' := Aside0.mk (show slices_EqualFunc.l0 F k1 l0 l1 (wrap64 (x7_1 + 1)) = some r from H)
                clear H
                go_wp2_with (go_at_call 29; refine (HF.out _ _ _ _ A7.out (by first | exact hG | exact GOK.below hG (by repeat (first | exact HB.out | apply below_alloc | apply pw_below_drewN | apply below_drew1)))).mono ?_; rintro e w7 ⟨rfl, hb⟩; have HB2 := Aside0.mk (below_step (by repeat (first | exact HB.out | apply below_alloc | apply pw_below_drewN | apply below_drew1)) hb); clear HB hb; have HB := HB2; clear HB2)
                go_roundg k1
                case measure => have := HK1.out; omega
                case rel => exact ⟨(wrap64 (x7_1 + 1)), (by first | rfl | (simp; done) | (simp [*]; done)), H', ⟨by have := HK1.out; omega⟩, ⟨by repeat (first | exact HB.out | apply below_alloc | apply pw_below_drewN | apply below_drew1)⟩⟩
              | false =>
                obtain rfl := Option.some.inj (show some false = some r from H)
                clear H
                go_wp2_with (go_at_call 29; refine (HF.out _ _ _ _ A7.out (by first | exact hG | exact GOK.below hG (by repeat (first | exact HB.out | apply below_alloc | apply pw_below_drewN | apply below_drew1)))).mono ?_; rintro e w7 ⟨rfl, hb⟩; have HB2 := Aside0.mk (below_step (by repeat (first | exact HB.out | apply below_alloc | apply pw_below_drewN | apply below_drew1)) hb); clear HB hb; have HB := HB2; clear HB2)
                go_ret
                exact ⟨rfl, by repeat (first | exact HB.out | apply below_alloc | apply pw_below_drewN | apply below_drew1)⟩
            · rw [if_neg c6] at H
              exact absurd H (by simp)
          · rw [if_neg c5] at H
            exact absurd H (by simp)
        · rw [if_neg c4] at H
          have c4b0 : decide (x7_1 < (l0.length : Int)) = false := decide_eq_false c4
          clear c4
          obtain rfl := Option.some.inj H
          go_wp2
          go_ret
          exact ⟨rfl, by repeat (first | exact HB.out | apply below_alloc | apply pw_below_drewN | apply below_drew1)⟩
  · rw [if_neg c3] at H
    have c3b0 : ((l0.length : Int) == (l1.length : Int)) = false := beq_eq_false_iff_ne.mpr c3
    have c3b1 : ((l0.length : Int) != (l1.length : Int)) = true := bne_iff_ne.mpr c3
    have c3b2 : (l0.length == l1.length) = false := by first | simpa using c3 | (simp at c3 ⊢; omega)
    obtain rfl := Option.some.inj H
    go_enter Tryd.func50, Tryd.ntmps50
    go_wp2
    repeat (go_quiet (fail); try go_wp2)
    go_ret
    exact ⟨rfl, by repeat (first | exact HB.out | apply below_alloc | apply pw_below_drewN | apply below_drew1)⟩
theorem slices_EqualFunc.mono_l (F F' : ByteArray → ByteArray → Option Bool) (hF : ∀ a b, LeO (F a b) (F' a b)) : ∀ k, ∀ x0 x1 x7, LeO (slices_EqualFunc.l0 F k x0 x1 x7) (slices_EqualFunc.l0 F' (k + 1) x0 x1 x7)
  | 0 => fun _ _ _ r h => by simp [slices_EqualFunc.l0] at h
  | k + 1 => by
    have ih := slices_EqualFunc.mono_l F F' hF k
    intro x0 x1 x7
    unfold slices_EqualFunc.l0
    refine LeO.ite (LeO.ite (LeO.ite (LeO.bind (hF _ _) (fun _ => LeO.ite (ih _ _ _) (LeO.refl _))) (LeO.none _)) (LeO.none _)) (LeO.refl _)
theorem slices_EqualFunc.monoF (F F' : ByteArray → ByteArray → Option Bool) (hF : ∀ a b, LeO (F a b) (F' a b)) (k : Nat) (x0 x1 : List ByteArray) : LeO (slices_EqualFunc.f F k x0 x1) (slices_EqualFunc.f F' (k + 1) x0 x1) := by
  unfold slices_EqualFunc.f
  exact LeO.ite (slices_EqualFunc.mono_l F F' hF k _ _ _) (LeO.refl _)
def below_under.f : Nat → ByteArray → ByteArray → Option Bool
  | 0, _, _ => none
  | k + 1, a0, a1 => if a0.toList = a1.toList then some true else (term_Cut.f k a0).bind fun x => (term_Cut.f k a1).bind fun y => if x.1 = 0 then some true else if x.1 = y.1 then (if x.1 = 2 then (if x.2.1 = y.2.1 then slices_EqualFunc.f (below_under.f k) k x.2.2.1 y.2.2.1 else some false) else some false) else some false
theorem below_under.mono_l : ∀ k, ∀ a0 a1, LeO (below_under.f k a0 a1) (below_under.f (k + 1) a0 a1)
  | 0 => fun _ _ r h => by simp [below_under.f] at h
  | k + 1 => by
    have ih := below_under.mono_l k
    intro a0 a1
    conv => lhs; unfold below_under.f
    conv => rhs; unfold below_under.f
    refine LeO.ite (LeO.refl _) (LeO.bind (term_Cut.mono _ _) (fun _ => LeO.bind (term_Cut.mono _ _) (fun _ => ?_)))
    refine LeO.ite (LeO.refl _) (LeO.ite (LeO.ite (LeO.ite (slices_EqualFunc.monoF _ _ ih k _ _) (LeO.refl _)) (LeO.refl _)) (LeO.refl _))
theorem below_under.mono : ∀ a0 a1 k, LeO (below_under.f k a0 a1) (below_under.f (k + 1) a0 a1) := fun a0 a1 k => below_under.mono_l k a0 a1
set_option maxHeartbeats 8000000 in
set_option maxRecDepth 100000 in
theorem below_under.calls (k : Nat) : ∀ (a0 : ByteArray) (a1 : ByteArray) (r : Bool) (w : World) (h : below_under.f k a0 a1 = some r) (hG : GOK w),
    Calls Tryd.prog 29 #[.string a0, .string a1] w fun e w' => e = .returned (.bool r) ∧ Below w.heap.size w w' := by
  induction k using Nat.strongRecOn with
  | _ k ih =>
  intro a0 a1 r w h hG
  cases k with
  | zero => exact absurd h (by simp [below_under.f])
  | succ k =>
  have HB := Aside0.mk (Below.refl w.heap.size w)
  rw [below_under.f] at h
  by_cases c0 : a0.toList = a1.toList
  · rw [if_pos c0] at h
    obtain rfl := Option.some.inj h
    have c0b0 : (a0.toList == a1.toList) = true := beq_iff_eq.mpr c0
    clear c0
    go_enter Tryd.func29, Tryd.ntmps29
    go_wp2
    go_ret
    exact ⟨rfl, by repeat (first | (with_reducible first | exact HB.out | apply below_alloc | apply pw_below_drewN | apply below_drew1) | exact HB.out)⟩
  · rw [if_neg c0] at h
    have c0b0 : (a0.toList == a1.toList) = false := beq_eq_false_iff_ne.mpr c0
    clear c0
    replace h := Option.bind_eq_some_iff.mp h
    obtain ⟨⟨t1, t2, t3, t4⟩, A10, h⟩ := h
    have A1 := Aside0.mk A10
    clear A10
    replace h := Option.bind_eq_some_iff.mp h
    obtain ⟨⟨u1, u2, u3, u4⟩, A20, h⟩ := h
    have A2 := Aside0.mk A20
    clear A20
    dsimp only at h
    by_cases c1 : t1 = 0
    · rw [if_pos c1] at h
      subst c1
      obtain rfl := Option.some.inj h
      go_enter Tryd.func29, Tryd.ntmps29
      go_wp2_with (first | (go_at_call 49; (with_reducible refine (term_Cut.calls k a0 0 t2 t3 t4 _ A1.out (by first | exact hG | exact GOK.below hG (by repeat (first | (with_reducible first | exact HB.out | apply below_alloc | apply pw_below_drewN | apply below_drew1) | exact HB.out)))).mono ?_); rintro e w6 ⟨v3, rfl, ho0, hb⟩; have n0_ := Aside0.mk (Kd.R_lower ho0 (below_size (by repeat (first | (with_reducible first | exact HB.out | apply below_alloc | apply pw_below_drewN | apply below_drew1) | exact HB.out)))); have n1_ := Aside0.mk (below_step (by repeat (first | (with_reducible first | exact HB.out | apply below_alloc | apply pw_below_drewN | apply below_drew1) | exact HB.out)) hb); clear HB; have HO3 := n0_; have HB := n1_; clear n0_ n1_ hb ho0) | (go_at_call 49; (with_reducible refine (term_Cut.calls k a1 u1 u2 u3 u4 _ A2.out (by first | exact hG | exact GOK.below hG (by repeat (first | (with_reducible first | exact HB.out | apply below_alloc | apply pw_below_drewN | apply below_drew1) | exact HB.out)))).mono ?_); rintro e w7 ⟨v6, rfl, ho0, hb⟩; have n0_ := Aside0.mk (Kd.R_elder' (by (with_reducible repeat (first | apply Kd.R_alloc | apply Kd.R_drewN | apply Kd.R_drew)); exact HO3.out) (Kd.R_base ho0) hb); have n1_ := Aside0.mk (Kd.R_lower (Kd.R_new' ho0 (Kd.R_lt (by (with_reducible repeat (first | apply Kd.R_alloc | apply Kd.R_drewN | apply Kd.R_drew)); exact HO3.out))) (below_size (by repeat (first | (with_reducible first | exact HB.out | apply below_alloc | apply pw_below_drewN | apply below_drew1) | exact HB.out)))); have n2_ := Aside0.mk (below_step (by repeat (first | (with_reducible first | exact HB.out | apply below_alloc | apply pw_below_drewN | apply below_drew1) | exact HB.out)) hb); clear HO3; clear HB; have HO3 := n0_; have HO6 := n1_; have HB := n2_; clear n0_ n1_ n2_ hb ho0))
      go_ret
      exact ⟨rfl, by repeat (first | (with_reducible first | exact HB.out | apply below_alloc | apply pw_below_drewN | apply below_drew1) | exact HB.out)⟩
    · rw [if_neg c1] at h
      have c1b0 : (t1 == 0) = false := beq_eq_false_iff_ne.mpr c1
      clear c1
      by_cases c2 : t1 = u1
      · rw [if_pos c2] at h
        have c2b0 : (t1 == u1) = true := beq_iff_eq.mpr c2
        clear c2
        by_cases c3 : t1 = 2
        · rw [if_pos c3] at h
          have c3b0 : (t1 == 2) = true := beq_iff_eq.mpr c3
          clear c3
          by_cases c4 : t2 = u2
          · rw [if_pos c4] at h
            have c4b0 : (t2 == u2) = true := beq_iff_eq.mpr c4
            clear c4
            have A3 := Aside0.mk h
            clear h
            go_enter Tryd.func29, Tryd.ntmps29
            go_wp2_with (first | (go_at_call 49; (with_reducible refine (term_Cut.calls k a0 t1 t2 t3 t4 _ A1.out (by first | exact hG | exact GOK.below hG (by repeat (first | (with_reducible first | exact HB.out | apply below_alloc | apply pw_below_drewN | apply below_drew1) | exact HB.out)))).mono ?_); rintro e w6 ⟨v3, rfl, ho0, hb⟩; have n0_ := Aside0.mk (Kd.R_lower ho0 (below_size (by repeat (first | (with_reducible first | exact HB.out | apply below_alloc | apply pw_below_drewN | apply below_drew1) | exact HB.out)))); have n1_ := Aside0.mk (below_step (by repeat (first | (with_reducible first | exact HB.out | apply below_alloc | apply pw_below_drewN | apply below_drew1) | exact HB.out)) hb); clear HB; have HO3 := n0_; have HB := n1_; clear n0_ n1_ hb ho0) | (go_at_call 49; (with_reducible refine (term_Cut.calls k a1 u1 u2 u3 u4 _ A2.out (by first | exact hG | exact GOK.below hG (by repeat (first | (with_reducible first | exact HB.out | apply below_alloc | apply pw_below_drewN | apply below_drew1) | exact HB.out)))).mono ?_); rintro e w7 ⟨v6, rfl, ho0, hb⟩; have n0_ := Aside0.mk (Kd.R_elder' (by (with_reducible repeat (first | apply Kd.R_alloc | apply Kd.R_drewN | apply Kd.R_drew)); exact HO3.out) (Kd.R_base ho0) hb); have n1_ := Aside0.mk (Kd.R_lower (Kd.R_new' ho0 (Kd.R_lt (by (with_reducible repeat (first | apply Kd.R_alloc | apply Kd.R_drewN | apply Kd.R_drew)); exact HO3.out))) (below_size (by repeat (first | (with_reducible first | exact HB.out | apply below_alloc | apply pw_below_drewN | apply below_drew1) | exact HB.out)))); have n2_ := Aside0.mk (below_step (by repeat (first | (with_reducible first | exact HB.out | apply below_alloc | apply pw_below_drewN | apply below_drew1) | exact HB.out)) hb); clear HO3; clear HB; have HO3 := n0_; have HO6 := n1_; have HB := n2_; clear n0_ n1_ n2_ hb ho0; obtain ⟨Ao3, co3, eo3⟩ := Kd.R_slice HO3.out; obtain ⟨Ao6, co6, eo6⟩ := Kd.R_slice HO6.out; subst eo3 eo6) | (go_at_call 50; (with_reducible refine (slices_EqualFunc.calls (below_under.f k) (fun a b r W h hg => ih k (Nat.lt_succ_self _) a b r W h hg) k _ co3 t3 _ co6 u3 _ _ (Kd.R_reads' HO3.out).2.2 (Kd.R_reads' HO3.out).2.1 (Kd.R_reads' HO6.out).2.2 (Kd.R_reads' HO6.out).2.1 A3.out (by first | exact hG | exact GOK.below hG (by repeat (first | (with_reducible first | exact HB.out | apply below_alloc | apply pw_below_drewN | apply below_drew1) | exact HB.out)))).mono ?_); rintro e w8 ⟨rfl, hb⟩; have n1_ := Aside0.mk (below_step (by repeat (first | (with_reducible first | exact HB.out | apply below_alloc | apply pw_below_drewN | apply below_drew1) | exact HB.out)) hb); clear HB; have HB := n1_; clear n1_ hb))
            go_ret
            exact ⟨rfl, by repeat (first | (with_reducible first | exact HB.out | apply below_alloc | apply pw_below_drewN | apply below_drew1) | exact HB.out)⟩
          · rw [if_neg c4] at h
            have c4b0 : (t2 == u2) = false := beq_eq_false_iff_ne.mpr c4
            clear c4
            obtain rfl := Option.some.inj h
            go_enter Tryd.func29, Tryd.ntmps29
            go_wp2_with (first | (go_at_call 49; (with_reducible refine (term_Cut.calls k a0 t1 t2 t3 t4 _ A1.out (by first | exact hG | exact GOK.below hG (by repeat (first | (with_reducible first | exact HB.out | apply below_alloc | apply pw_below_drewN | apply below_drew1) | exact HB.out)))).mono ?_); rintro e w6 ⟨v3, rfl, ho0, hb⟩; have n0_ := Aside0.mk (Kd.R_lower ho0 (below_size (by repeat (first | (with_reducible first | exact HB.out | apply below_alloc | apply pw_below_drewN | apply below_drew1) | exact HB.out)))); have n1_ := Aside0.mk (below_step (by repeat (first | (with_reducible first | exact HB.out | apply below_alloc | apply pw_below_drewN | apply below_drew1) | exact HB.out)) hb); clear HB; have HO3 := n0_; have HB := n1_; clear n0_ n1_ hb ho0) | (go_at_call 49; (with_reducible refine (term_Cut.calls k a1 u1 u2 u3 u4 _ A2.out (by first | exact hG | exact GOK.below hG (by repeat (first | (with_reducible first | exact HB.out | apply below_alloc | apply pw_below_drewN | apply below_drew1) | exact HB.out)))).mono ?_); rintro e w7 ⟨v6, rfl, ho0, hb⟩; have n0_ := Aside0.mk (Kd.R_elder' (by (with_reducible repeat (first | apply Kd.R_alloc | apply Kd.R_drewN | apply Kd.R_drew)); exact HO3.out) (Kd.R_base ho0) hb); have n1_ := Aside0.mk (Kd.R_lower (Kd.R_new' ho0 (Kd.R_lt (by (with_reducible repeat (first | apply Kd.R_alloc | apply Kd.R_drewN | apply Kd.R_drew)); exact HO3.out))) (below_size (by repeat (first | (with_reducible first | exact HB.out | apply below_alloc | apply pw_below_drewN | apply below_drew1) | exact HB.out)))); have n2_ := Aside0.mk (below_step (by repeat (first | (with_reducible first | exact HB.out | apply below_alloc | apply pw_below_drewN | apply below_drew1) | exact HB.out)) hb); clear HO3; clear HB; have HO3 := n0_; have HO6 := n1_; have HB := n2_; clear n0_ n1_ n2_ hb ho0))
            go_ret
            exact ⟨rfl, by repeat (first | (with_reducible first | exact HB.out | apply below_alloc | apply pw_below_drewN | apply below_drew1) | exact HB.out)⟩
        · rw [if_neg c3] at h
          have c3b0 : (t1 == 2) = false := beq_eq_false_iff_ne.mpr c3
          clear c3
          obtain rfl := Option.some.inj h
          go_enter Tryd.func29, Tryd.ntmps29
          go_wp2_with (first | (go_at_call 49; (with_reducible refine (term_Cut.calls k a0 t1 t2 t3 t4 _ A1.out (by first | exact hG | exact GOK.below hG (by repeat (first | (with_reducible first | exact HB.out | apply below_alloc | apply pw_below_drewN | apply below_drew1) | exact HB.out)))).mono ?_); rintro e w6 ⟨v3, rfl, ho0, hb⟩; have n0_ := Aside0.mk (Kd.R_lower ho0 (below_size (by repeat (first | (with_reducible first | exact HB.out | apply below_alloc | apply pw_below_drewN | apply below_drew1) | exact HB.out)))); have n1_ := Aside0.mk (below_step (by repeat (first | (with_reducible first | exact HB.out | apply below_alloc | apply pw_below_drewN | apply below_drew1) | exact HB.out)) hb); clear HB; have HO3 := n0_; have HB := n1_; clear n0_ n1_ hb ho0) | (go_at_call 49; (with_reducible refine (term_Cut.calls k a1 u1 u2 u3 u4 _ A2.out (by first | exact hG | exact GOK.below hG (by repeat (first | (with_reducible first | exact HB.out | apply below_alloc | apply pw_below_drewN | apply below_drew1) | exact HB.out)))).mono ?_); rintro e w7 ⟨v6, rfl, ho0, hb⟩; have n0_ := Aside0.mk (Kd.R_elder' (by (with_reducible repeat (first | apply Kd.R_alloc | apply Kd.R_drewN | apply Kd.R_drew)); exact HO3.out) (Kd.R_base ho0) hb); have n1_ := Aside0.mk (Kd.R_lower (Kd.R_new' ho0 (Kd.R_lt (by (with_reducible repeat (first | apply Kd.R_alloc | apply Kd.R_drewN | apply Kd.R_drew)); exact HO3.out))) (below_size (by repeat (first | (with_reducible first | exact HB.out | apply below_alloc | apply pw_below_drewN | apply below_drew1) | exact HB.out)))); have n2_ := Aside0.mk (below_step (by repeat (first | (with_reducible first | exact HB.out | apply below_alloc | apply pw_below_drewN | apply below_drew1) | exact HB.out)) hb); clear HO3; clear HB; have HO3 := n0_; have HO6 := n1_; have HB := n2_; clear n0_ n1_ n2_ hb ho0))
          go_ret
          exact ⟨rfl, by repeat (first | (with_reducible first | exact HB.out | apply below_alloc | apply pw_below_drewN | apply below_drew1) | exact HB.out)⟩
      · rw [if_neg c2] at h
        have c2b0 : (t1 == u1) = false := beq_eq_false_iff_ne.mpr c2
        clear c2
        obtain rfl := Option.some.inj h
        go_enter Tryd.func29, Tryd.ntmps29
        go_wp2_with (first | (go_at_call 49; (with_reducible refine (term_Cut.calls k a0 t1 t2 t3 t4 _ A1.out (by first | exact hG | exact GOK.below hG (by repeat (first | (with_reducible first | exact HB.out | apply below_alloc | apply pw_below_drewN | apply below_drew1) | exact HB.out)))).mono ?_); rintro e w6 ⟨v3, rfl, ho0, hb⟩; have n0_ := Aside0.mk (Kd.R_lower ho0 (below_size (by repeat (first | (with_reducible first | exact HB.out | apply below_alloc | apply pw_below_drewN | apply below_drew1) | exact HB.out)))); have n1_ := Aside0.mk (below_step (by repeat (first | (with_reducible first | exact HB.out | apply below_alloc | apply pw_below_drewN | apply below_drew1) | exact HB.out)) hb); clear HB; have HO3 := n0_; have HB := n1_; clear n0_ n1_ hb ho0) | (go_at_call 49; (with_reducible refine (term_Cut.calls k a1 u1 u2 u3 u4 _ A2.out (by first | exact hG | exact GOK.below hG (by repeat (first | (with_reducible first | exact HB.out | apply below_alloc | apply pw_below_drewN | apply below_drew1) | exact HB.out)))).mono ?_); rintro e w7 ⟨v6, rfl, ho0, hb⟩; have n0_ := Aside0.mk (Kd.R_elder' (by (with_reducible repeat (first | apply Kd.R_alloc | apply Kd.R_drewN | apply Kd.R_drew)); exact HO3.out) (Kd.R_base ho0) hb); have n1_ := Aside0.mk (Kd.R_lower (Kd.R_new' ho0 (Kd.R_lt (by (with_reducible repeat (first | apply Kd.R_alloc | apply Kd.R_drewN | apply Kd.R_drew)); exact HO3.out))) (below_size (by repeat (first | (with_reducible first | exact HB.out | apply below_alloc | apply pw_below_drewN | apply below_drew1) | exact HB.out)))); have n2_ := Aside0.mk (below_step (by repeat (first | (with_reducible first | exact HB.out | apply below_alloc | apply pw_below_drewN | apply below_drew1) | exact HB.out)) hb); clear HO3; clear HB; have HO3 := n0_; have HO6 := n1_; have HB := n2_; clear n0_ n1_ n2_ hb ho0))
        go_ret
        exact ⟨rfl, by repeat (first | (with_reducible first | exact HB.out | apply below_alloc | apply pw_below_drewN | apply below_drew1) | exact HB.out)⟩

end Go.Proofs.YtnoehmpmkfkgfaaDoor.G
