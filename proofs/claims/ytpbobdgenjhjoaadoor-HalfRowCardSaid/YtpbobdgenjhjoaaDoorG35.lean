-- Laid by the session's own driver gp.py over the kit's printer. Not trusted: Lean checks it.
import Derived.Test.YtpbobdgenjhjoaaDoorG0
import Derived.Test.YtpbobdgenjhjoaaDoorG1
import Derived.Test.YtpbobdgenjhjoaaDoorG2
import Derived.Test.YtpbobdgenjhjoaaDoorG25
namespace Go.Proofs.YtpbobdgenjhjoaaDoor.G
open Go.RowKit Go.Proofs.YtpbobdgenjhjoaaDoorW.PrintWords Go.Proofs.YtpbobdgenjhjoaaDoorW.PrintLast Go.Proofs.YtpbobdgenjhjoaaDoorW.PrintMore
attribute [local go_sem] max2_int min2_int max_two min_two max_three min_three max_four min_four   -- for this text's walks alone
set_option linter.unusedVariables false
set_option linter.unusedSimpArgs false

attribute [local go_sem high] eqA27
/-! ### sleuthlaw19_HalfRow: function 10 -/
mutual
def sleuthlaw19_HalfRow.l0 : Nat → Int → Int → List (S41) → List Int → Int → Option (Bool)
  | 0, _, _, _, _, _ => none
  | k + 1, x5, x6, x7, x8, x9 => if x9 < x5 then (if 0 ≤ x9 then (if x9 < (x7.length : Int) then (sleuthlaw19_HalfRow.l0 k x5 x6 (x7.set (x9 : Int).toNat (⟨0, wrap64 (x9 - 1), ([] : List ByteArray), (⟨#[49]⟩ : ByteArray)⟩ : S41)) x8 (wrap64 (x9 + 1))) else (none)) else (none)) else (if 0 < (x8.length : Int) then (if 0 ≤ x6 then (if x6 < (x8.length : Int) then ((half_Next.f k x7 ((x8.set (0 : Int).toNat 2).set (x6 : Int).toNat 2)).bind fun bt430 => (sleuthlaw19_HalfRow.l1 k x5 x6 bt430.2.2 (wrap64 ((wrap64 (x5 - 1)) - x6)) (wrap64 ((wrap64 (x5 - 1)) - x6)) 0 (wrap64 (x6 + 1)) bt430.1 bt430.2.1)) else (none)) else (none)) else (none))
def sleuthlaw19_HalfRow.l1 : Nat → Int → Int → Int → Int → Int → Int → Int → Int → Int → Option (Bool)
  | 0, _, _, _, _, _, _, _, _, _ => none
  | k + 1, x5, x6, x11, x12, x13, x14, x15, x434000, x434001 => if x15 < x5 then (if x15 = (wrap64 (x6 + 1)) then (sleuthlaw19_HalfRow.l1 k x5 x6 x11 x12 (mx (wrap64 ((wrap64 (2 * (wrap64 (x5 - x15)))) - x12)) (wrap64 (x12 - (wrap64 (2 * (wrap64 (x5 - x15))))))) x15 (wrap64 (x15 + 1)) x434000 x434001) else (if (mx (wrap64 ((wrap64 (2 * (wrap64 (x5 - x15)))) - x12)) (wrap64 (x12 - (wrap64 (2 * (wrap64 (x5 - x15))))))) < x13 then (sleuthlaw19_HalfRow.l1 k x5 x6 x11 x12 (mx (wrap64 ((wrap64 (2 * (wrap64 (x5 - x15)))) - x12)) (wrap64 (x12 - (wrap64 (2 * (wrap64 (x5 - x15))))))) x15 (wrap64 (x15 + 1)) x434000 x434001) else (sleuthlaw19_HalfRow.l1 k x5 x6 x11 x12 x13 x14 (wrap64 (x15 + 1)) x434000 x434001))) else ((sleuthlaw0_Num.f x11).bind fun t434 => (if t434 = 0 then (if (x434000 == 0 && (x434001 == x14)) = true then ((sleuthlaw19_some.f).bind fun t435 => (some ((t435.length : Int) == 5))) else (none)) else (none)))
end
def sleuthlaw19_HalfRow.f (k : Nat) (a0 : Int) (a1 : Int) : Option (Bool) := (sleuthlaw19_awake.f k).bind fun t420 => (if t420 = true then (if (IntKind.u64.wrap (wrap64 ((wrap64 (2 + (Go.bits .and .i64 a0 31))) - 1))) = 0 then (none) else (if 0 ≤ (wrap64 (2 + (Go.bits .and .i64 a0 31))) then (if (wrap64 (2 + (Go.bits .and .i64 a0 31)) : Int).toNat ≤ 5026338869833 then (if (wrap64 (2 + (Go.bits .and .i64 a0 31)) : Int).toNat ≤ 35184372088832 then (sleuthlaw19_HalfRow.l0 k (wrap64 (2 + (Go.bits .and .i64 a0 31))) (wrap64 (Int.tmod (IntKind.u64.wrap (a1)) (IntKind.u64.wrap (wrap64 ((wrap64 (2 + (Go.bits .and .i64 a0 31))) - 1))))) (List.replicate (wrap64 (2 + (Go.bits .and .i64 a0 31)) : Int).toNat z41) (List.replicate (wrap64 (2 + (Go.bits .and .i64 a0 31)) : Int).toNat 0) 0) else (none)) else (none)) else (none))) else (none))
theorem sleuthlaw19_HalfRow.mono_l : ∀ k, (∀ y0 y1 y2 y3 y4, LeO (sleuthlaw19_HalfRow.l0 k y0 y1 y2 y3 y4) (sleuthlaw19_HalfRow.l0 (k + 1) y0 y1 y2 y3 y4)) ∧ (∀ y0 y1 y2 y3 y4 y5 y6 y7 y8, LeO (sleuthlaw19_HalfRow.l1 k y0 y1 y2 y3 y4 y5 y6 y7 y8) (sleuthlaw19_HalfRow.l1 (k + 1) y0 y1 y2 y3 y4 y5 y6 y7 y8))
  | 0 => ⟨fun _ _ _ _ _ r h => by simp [sleuthlaw19_HalfRow.l0] at h, fun _ _ _ _ _ _ _ _ _ r h => by simp [sleuthlaw19_HalfRow.l1] at h⟩
  | k + 1 => by
    obtain ⟨ih0, ih1⟩ := sleuthlaw19_HalfRow.mono_l k
    refine ⟨?_, ?_⟩
    · intro y0 y1 y2 y3 y4
      unfold sleuthlaw19_HalfRow.l0
      repeat' first
      | (with_reducible exact ih0 _ _ _ _ _)
      | (with_reducible exact ih1 _ _ _ _ _ _ _ _ _)
      | (with_reducible exact half_Next.mono _ _ _)
      | (with_reducible exact sleuthlaw19_awake.mono _)
      | (with_reducible exact LeO.refl _)
      | (with_reducible exact LeO.none _)
      | (with_reducible refine LeO.ite ?_ ?_)
      | (with_reducible refine LeO.bind ?_ (fun _ => ?_))
      | exact ih0 _ _ _ _ _
      | exact ih1 _ _ _ _ _ _ _ _ _
      | exact half_Next.mono _ _ _
      | exact sleuthlaw19_awake.mono _
      | exact LeO.none _
      | refine LeO.ite ?_ ?_
      | refine LeO.bind ?_ (fun _ => ?_)
    · intro y0 y1 y2 y3 y4 y5 y6 y7 y8
      unfold sleuthlaw19_HalfRow.l1
      repeat' first
      | (with_reducible exact ih0 _ _ _ _ _)
      | (with_reducible exact ih1 _ _ _ _ _ _ _ _ _)
      | (with_reducible exact half_Next.mono _ _ _)
      | (with_reducible exact sleuthlaw19_awake.mono _)
      | (with_reducible exact LeO.refl _)
      | (with_reducible exact LeO.none _)
      | (with_reducible refine LeO.ite ?_ ?_)
      | (with_reducible refine LeO.bind ?_ (fun _ => ?_))
      | exact ih0 _ _ _ _ _
      | exact ih1 _ _ _ _ _ _ _ _ _
      | exact half_Next.mono _ _ _
      | exact sleuthlaw19_awake.mono _
      | exact LeO.none _
      | refine LeO.ite ?_ ?_
      | refine LeO.bind ?_ (fun _ => ?_)
theorem sleuthlaw19_HalfRow.mono : ∀ a0 a1 k, LeO (sleuthlaw19_HalfRow.f k a0 a1) (sleuthlaw19_HalfRow.f (k + 1) a0 a1) := by
  intro a0 a1 k
  obtain ⟨ih0, ih1⟩ := sleuthlaw19_HalfRow.mono_l k
  unfold sleuthlaw19_HalfRow.f
  repeat' first
      | (with_reducible exact ih0 _ _ _ _ _)
      | (with_reducible exact ih1 _ _ _ _ _ _ _ _ _)
      | (with_reducible exact half_Next.mono _ _ _)
      | (with_reducible exact sleuthlaw19_awake.mono _)
      | (with_reducible exact LeO.refl _)
      | (with_reducible exact LeO.none _)
      | (with_reducible refine LeO.ite ?_ ?_)
      | (with_reducible refine LeO.bind ?_ (fun _ => ?_))
      | exact ih0 _ _ _ _ _
      | exact ih1 _ _ _ _ _ _ _ _ _
      | exact half_Next.mono _ _ _
      | exact sleuthlaw19_awake.mono _
      | exact LeO.none _
      | refine LeO.ite ?_ ?_
      | refine LeO.bind ?_ (fun _ => ?_)
set_option maxHeartbeats 8000000 in
set_option maxRecDepth 100000 in
theorem sleuthlaw19_HalfRow.calls (k : Nat) (a0 : Int) (a1 : Int) (r : Bool) (w : World) (h : sleuthlaw19_HalfRow.f k a0 a1 = some r) (hG : GOK w) :
    Calls Tryd.prog 10 #[.int .i64 a0, .int .i64 a1] w fun e w' => e = .returned (.bool r) ∧ Below w.heap.size w w' := by
  have hu41 := Tryd.underlying41
  have hu27 := Tryd.underlying27
  have HB := Aside0.mk (Below.refl w.heap.size w)
  have H : ((sleuthlaw19_awake.f k).bind fun t420 => (if t420 = true then (if (IntKind.u64.wrap (wrap64 ((wrap64 (2 + (Go.bits .and .i64 a0 31))) - 1))) = 0 then (none) else (if 0 ≤ (wrap64 (2 + (Go.bits .and .i64 a0 31))) then (if (wrap64 (2 + (Go.bits .and .i64 a0 31)) : Int).toNat ≤ 5026338869833 then (if (wrap64 (2 + (Go.bits .and .i64 a0 31)) : Int).toNat ≤ 35184372088832 then (sleuthlaw19_HalfRow.l0 k (wrap64 (2 + (Go.bits .and .i64 a0 31))) (wrap64 (Int.tmod (IntKind.u64.wrap (a1)) (IntKind.u64.wrap (wrap64 ((wrap64 (2 + (Go.bits .and .i64 a0 31))) - 1))))) (List.replicate (wrap64 (2 + (Go.bits .and .i64 a0 31)) : Int).toNat z41) (List.replicate (wrap64 (2 + (Go.bits .and .i64 a0 31)) : Int).toNat 0) 0) else (none)) else (none)) else (none))) else (none))) = some r := h
  clear h
  replace H := Option.bind_eq_some_iff.mp H
  obtain ⟨t420, A30, H⟩ := H
  replace H : (if t420 = true then (if (IntKind.u64.wrap (wrap64 ((wrap64 (2 + (Go.bits .and .i64 a0 31))) - 1))) = 0 then (none) else (if 0 ≤ (wrap64 (2 + (Go.bits .and .i64 a0 31))) then (if (wrap64 (2 + (Go.bits .and .i64 a0 31)) : Int).toNat ≤ 5026338869833 then (if (wrap64 (2 + (Go.bits .and .i64 a0 31)) : Int).toNat ≤ 35184372088832 then (sleuthlaw19_HalfRow.l0 k (wrap64 (2 + (Go.bits .and .i64 a0 31))) (wrap64 (Int.tmod (IntKind.u64.wrap (a1)) (IntKind.u64.wrap (wrap64 ((wrap64 (2 + (Go.bits .and .i64 a0 31))) - 1))))) (List.replicate (wrap64 (2 + (Go.bits .and .i64 a0 31)) : Int).toNat z41) (List.replicate (wrap64 (2 + (Go.bits .and .i64 a0 31)) : Int).toNat 0) 0) else (none)) else (none)) else (none))) else (none)) = some r := H
  have A3 := Aside0.mk A30
  clear A30
  by_cases c4 : t420 = true
  · subst c4
    have H1 : (if (IntKind.u64.wrap (wrap64 ((wrap64 (2 + (Go.bits .and .i64 a0 31))) - 1))) = 0 then (none) else (if 0 ≤ (wrap64 (2 + (Go.bits .and .i64 a0 31))) then (if (wrap64 (2 + (Go.bits .and .i64 a0 31)) : Int).toNat ≤ 5026338869833 then (if (wrap64 (2 + (Go.bits .and .i64 a0 31)) : Int).toNat ≤ 35184372088832 then (sleuthlaw19_HalfRow.l0 k (wrap64 (2 + (Go.bits .and .i64 a0 31))) (wrap64 (Int.tmod (IntKind.u64.wrap (a1)) (IntKind.u64.wrap (wrap64 ((wrap64 (2 + (Go.bits .and .i64 a0 31))) - 1))))) (List.replicate (wrap64 (2 + (Go.bits .and .i64 a0 31)) : Int).toNat z41) (List.replicate (wrap64 (2 + (Go.bits .and .i64 a0 31)) : Int).toNat 0) 0) else (none)) else (none)) else (none))) = some r := by rw [if_pos rfl] at H; exact H
    clear H
    have H := H1
    clear H1
    by_cases c5 : (IntKind.u64.wrap (wrap64 ((wrap64 (2 + (Go.bits .and .i64 a0 31))) - 1))) = 0
    · rw [if_pos c5] at H
      exact absurd H (by simp)
    · rw [if_neg c5] at H
      have c5b0 : ((IntKind.u64.wrap (wrap64 ((wrap64 (2 + (Go.bits .and .i64 a0 31))) - 1))) == 0) = false := beq_eq_false_iff_ne.mpr c5
      have c5b1 : ((IntKind.u64.wrap (wrap64 ((wrap64 (2 + (Go.bits .and .i64 a0 31))) - 1))) != 0) = true := bne_iff_ne.mpr c5
      (try (have c5b0w := c5b0; try (rw [show wrap64 (2 + (Go.bits .and .i64 a0 31)) = (2 + (Go.bits .and .i64 a0 31)) from by unfold wrap64; omega] at c5b0w); try (rw [show wrap64 ((wrap64 (2 + (Go.bits .and .i64 a0 31))) - 1) = ((wrap64 (2 + (Go.bits .and .i64 a0 31))) - 1) from by unfold wrap64; omega] at c5b0w)))
      (try (have c5b1w := c5b1; try (rw [show wrap64 (2 + (Go.bits .and .i64 a0 31)) = (2 + (Go.bits .and .i64 a0 31)) from by unfold wrap64; omega] at c5b1w); try (rw [show wrap64 ((wrap64 (2 + (Go.bits .and .i64 a0 31))) - 1) = ((wrap64 (2 + (Go.bits .and .i64 a0 31))) - 1) from by unfold wrap64; omega] at c5b1w)))
      obtain ⟨ji6, hji6⟩ : ∃ j_ : Int, (wrap64 (2 + (Go.bits .and .i64 a0 31))) = j_ := ⟨_, rfl⟩
      replace H : (if 0 ≤ (ji6) then (if (ji6 : Int).toNat ≤ 5026338869833 then (if (ji6 : Int).toNat ≤ 35184372088832 then (sleuthlaw19_HalfRow.l0 k ji6 (wrap64 (Int.tmod (IntKind.u64.wrap (a1)) (IntKind.u64.wrap (wrap64 ((ji6) - 1))))) (List.replicate (ji6 : Int).toNat z41) (List.replicate (ji6 : Int).toNat 0) 0) else (none)) else (none)) else (none)) = some r := by first | (rw [hji6] at H; exact H) | (simp only [hji6] at H ⊢; exact H)
      (try rw [hji6] at c5b0)
      (try rw [hji6] at c5b1)
      (try rw [hji6] at A3)
      (try (have c5p := eq_false (beq_eq_false_iff_ne.mp c5b0)))
      (try (have c5b0v := c5b0; simp only [← i64_w] at c5b0v))
      (try (have c5b1v := c5b1; simp only [← i64_w] at c5b1v))
      have hji6w : (IntKind.i64.wrap (2 + (Go.bits .and .i64 a0 31))) = ji6 := (i64_w _).trans hji6
      by_cases c7 : 0 ≤ (ji6)
      · rw [if_pos c7] at H
        have c7b0 := eq_true c7
        have c7b1 : decide (0 ≤ (ji6)) = true := decide_eq_true c7
        clear c7
        by_cases c8 : (ji6 : Int).toNat ≤ 5026338869833
        · rw [if_pos c8] at H
          have c8b0 := eq_true c8
          have c8b1 : decide ((ji6 : Int).toNat ≤ 5026338869833) = true := decide_eq_true c8
          clear c8
          obtain ⟨y421, hy421⟩ : ∃ y_ : List (S41), y_ = (List.replicate (ji6 : Int).toNat z41) := ⟨_, rfl⟩
          replace H : (if (ji6 : Int).toNat ≤ 35184372088832 then (sleuthlaw19_HalfRow.l0 k ji6 (wrap64 (Int.tmod (IntKind.u64.wrap (a1)) (IntKind.u64.wrap (wrap64 ((ji6) - 1))))) y421 (List.replicate (ji6 : Int).toNat 0) 0) else (none)) = some r := by first | (rw [hy421]; with_reducible exact H) | (have H2_ := (Option.bind_some _ _).symm.trans H; rw [hy421]; with_reducible exact H2_) | (have H2_ := (Option.bind_some _ _).symm.trans H; with_reducible exact H2_) | with_reducible exact H | (rw [hy421]; exact H) | exact H
          have Ny421 := Aside0.mk hy421
          clear hy421
          by_cases c9 : (ji6 : Int).toNat ≤ 35184372088832
          · rw [if_pos c9] at H
            have c9b0 := eq_true c9
            have c9b1 : decide ((ji6 : Int).toNat ≤ 35184372088832) = true := decide_eq_true c9
            clear c9
            obtain ⟨y424, hy424⟩ : ∃ y_ : List Int, y_ = (List.replicate (ji6 : Int).toNat 0) := ⟨_, rfl⟩
            replace H : (sleuthlaw19_HalfRow.l0 k ji6 (wrap64 (Int.tmod (IntKind.u64.wrap (a1)) (IntKind.u64.wrap (wrap64 ((ji6) - 1))))) y421 y424 0) = some r := by first | (rw [hy424]; with_reducible exact H) | (have H2_ := (Option.bind_some _ _).symm.trans H; rw [hy424]; with_reducible exact H2_) | (have H2_ := (Option.bind_some _ _).symm.trans H; with_reducible exact H2_) | with_reducible exact H | (rw [hy424]; exact H) | exact H
            have Ny424 := Aside0.mk hy424
            clear hy424
            have H' := Aside0.mk H
            clear H
            go_enter Tryd.func10, Tryd.ntmps10
            try go_wp2_with (first | ((with_reducible refine gate_callee (f := 23) rfl ?_); refine goesL_ (some 17) rfl rfl Tryd.func23 (by kernel_rfl) rfl #[] rfl hL_ ?_; (with_reducible refine (sleuthlaw19_awake.calls k  true _ A3.out hG_).mono ?_); rintro e w10 ⟨rfl, hb⟩; refine ⟨_, rfl, ?_⟩; have n0_ := Aside0.mk (below_step hB_ hb); clear HB; have HB := n0_; clear n0_; (try clear hb); (try clear hb2); (try clear hk); (try clear hi)))
            have n0_ := Aside0.mk (below_drew1 HB.out)
            clear HB
            have HB := n0_
            clear n0_
            refine start_ (n := 6) (S := fun w' => True) (ds := []) #[false, false, false, false, false, false] (by kernel_rfl) rfl rfl trivial (fun hHeld => ?_)
            generalize w10.drew = w11 at HB hHeld ⊢
            refine pure_ (i := 0) (N := some 29) (v := ?_) (a' := ?_) #[true, false, false, false, false, false] rfl rfl (by kernel_rfl) (fun _ _ _ h => h) (Or.inl ⟨by rfl, ?_⟩) ?_ ?_
            rotate_left
            · intro w'
              go_simp
              with_reducible rfl
            rotate_left
            · simp only [Act.put, List.setIfInBounds_toArray, List.set_cons_zero, List.set_cons_succ, i64_w, i32_w]
              rfl
            refine pure_ (i := 2) (N := some 31) (v := ?_) (a' := ?_) #[true, false, true, false, false, false] rfl rfl (by kernel_rfl) (fun _ _ _ h => h) (Or.inl ⟨by rfl, ?_⟩) ?_ ?_
            rotate_left
            · intro w'
              go_simp
              with_reducible rfl
            rotate_left
            · simp only [Act.put, List.setIfInBounds_toArray, List.set_cons_zero, List.set_cons_succ, i64_w, i32_w]
              rfl
            refine join_ (σ := Value × Value) 1 #[true, true, true, true, true, false] (fun s_ => [(30, s_.1), (32, s_.2), (7, s_.1)]) (fun s_ w' => (Kd.N k41 41 w' w.heap.size (fun k_ => some k_ ≠ (s_.2 : Value).ownBlock) s_.1 y421) ∧ (Kd.R (Kd.int .i64) 3 w' w.heap.size (fun _ => True) s_.2 y424) ∧ (Below w.heap.size w w')) ?_ ?_
            rotate_left
            · intro hCont
              refine two_ (i := 1) (j := 3) (Ni := some 30) (Nj := some 32) #[true, true, true, false, false, false] #[true, false, true, true, false, false] rfl rfl rfl rfl (by kernel_rfl) (by decide) (by decide) (fun K hK => ?_) (fun K hK => ?_)
              · skip
                refine Kd.N_make_step k41 _ 41 (by rfl) (N' := 30) rfl 22 _ _ rfl ji6 rfl rfl Tryd.underlying22 (.agg #[(.int .i64 0), (.int .i64 0), (.slice none 0 0), (.string ⟨#[]⟩)]) 56 info41 rfl (by decide) (by omega) z41 (ok := fun k_ => w11.heap.size ≤ k_) (okp := fun _ => False) (k41_mkF _ _ z41 (Nat.le_refl _) (Kd.F_nil _ _ _)) (fun _ hk => hk.elim) (Nat.le_refl _) (of_decide_eq_true hA_) (Nat.le_trans (Nat.mul_le_mul_right _ (of_decide_eq_true hA_ : ji6.toNat ≤ 5026338869833)) (by omega)) (Below.refl _ _) (Nat.le_refl _) ?_
                intro v422 w12 ho13 hb hg_ hnew_
                clear hg_ hnew_
                (first | rw [← Ny421.out] at ho13 | (simp only [Int.reduceToNat] at ho13; rw [← Ny421.out] at ho13))
                have n0_ := Aside0.mk (Kd.N_lower (Kd.N_mono (ok' := fun k_ => True) ho13 (fun k_ hk_ => trivial)) hS_)
                have n1_ := Aside0.mk (below_step hB_ hb)
                clear HB
                have HO423 := n0_
                have HB := n1_
                clear n0_ n1_
                clear hb ho13
                refine hK.out _ _ trivial (fun hHeld => ?_)
                clear hK K
                refine norm_ (a' := ?_) ?_ ?_
                rotate_left
                · show Act.put _ (some 30) _ = _
                  simp only [Act.put, List.setIfInBounds_toArray, List.set_cons_zero, List.set_cons_succ, i64_w, i32_w]
                  rfl
                refine pure_ (i := 4) (N := some 7) (v := ?_) (a' := ?_) #[true, true, true, false, true, false] rfl rfl (by kernel_rfl) (fun _ _ _ h => h) (Or.inl ⟨by rfl, ?_⟩) ?_ ?_
                rotate_left
                · intro w'
                  go_simp
                  with_reducible rfl
                rotate_left
                · simp only [Act.put, List.setIfInBounds_toArray, List.set_cons_zero, List.set_cons_succ, i64_w, i32_w]
                  rfl
                refine one_ (i := 3) (N := some 32) #[true, true, true, true, true, false] rfl rfl (by kernel_rfl) (by decide) (fun K hK => ?_)
                refine Kd.R_make_step (Kd.int .i64) _ 3 (by rfl) (N := 32) rfl 23 _ _ rfl ji6 rfl rfl Tryd.underlying23 (.int .i64 0) 8 info3 rfl (by decide) (by omega) 0 (ok := fun _ => True) (okp := fun _ => True) rfl (fun _ hk => hk) trivial (of_decide_eq_true hA_) (Nat.le_trans (Nat.mul_le_mul_right _ (of_decide_eq_true hA_ : ji6.toNat ≤ 35184372088832)) (by omega)) (Below.refl _ _) (Nat.le_refl _) ?_
                intro v425 w14 ho15 hb hg_ hnew_
                clear hg_ hnew_
                (first | rw [← Ny424.out] at ho15 | (simp only [Int.reduceToNat] at ho15; rw [← Ny424.out] at ho15))
                have n0_ := Aside0.mk (Kd.N_elder' (hN_ HO423.out) (Kd.R_base ho15) hb)
                have n1_ := Aside0.mk (Kd.R_lower ho15 hS_)
                have n2_ := Aside0.mk (below_step hB_ hb)
                clear HO423
                clear HB
                have HO423 := n0_
                have HO426 := n1_
                have HB := n2_
                clear n0_ n1_ n2_
                clear hb ho15
                refine hK.out _ _ trivial (fun hHeld => ?_)
                clear hK K
                refine norm_ (a' := ?_) ?_ ?_
                rotate_left
                · show Act.put _ (some 32) _ = _
                  simp only [Act.put, List.setIfInBounds_toArray, List.set_cons_zero, List.set_cons_succ, i64_w, i32_w]
                  rfl
                exact norm_ (by simp only [putAll, Act.put, List.setIfInBounds_toArray, List.set_cons_zero, List.set_cons_succ]) (hCont (v422, v425) _ ⟨(by (with_reducible repeat (first | apply Kd.N_alloc | apply Kd.N_drewN | apply Kd.N_drew)); exact Kd.N_mono HO423.out (fun _ hk => hk.2)), (hR_ HO426.out), hB_⟩)
              · skip
                refine Kd.R_make_step (Kd.int .i64) _ 3 (by rfl) (N := 32) rfl 23 _ _ rfl ji6 rfl rfl Tryd.underlying23 (.int .i64 0) 8 info3 rfl (by decide) (by omega) 0 (ok := fun _ => True) (okp := fun _ => True) rfl (fun _ hk => hk) trivial (of_decide_eq_true hA_) (Nat.le_trans (Nat.mul_le_mul_right _ (of_decide_eq_true hA_ : ji6.toNat ≤ 35184372088832)) (by omega)) (Below.refl _ _) (Nat.le_refl _) ?_
                intro v425 w12 ho13 hb hg_ hnew_
                clear hg_ hnew_
                (first | rw [← Ny424.out] at ho13 | (simp only [Int.reduceToNat] at ho13; rw [← Ny424.out] at ho13))
                have n0_ := Aside0.mk (Kd.R_lower ho13 hS_)
                have n1_ := Aside0.mk (below_step hB_ hb)
                clear HB
                have HO426 := n0_
                have HB := n1_
                clear n0_ n1_
                clear hb ho13
                refine hK.out _ _ trivial (fun hHeld => ?_)
                clear hK K
                refine norm_ (a' := ?_) ?_ ?_
                rotate_left
                · show Act.put _ (some 32) _ = _
                  simp only [Act.put, List.setIfInBounds_toArray, List.set_cons_zero, List.set_cons_succ, i64_w, i32_w]
                  rfl
                refine one_ (i := 1) (N := some 30) #[true, true, true, true, false, false] rfl rfl (by kernel_rfl) (by decide) (fun K hK => ?_)
                refine Kd.N_make_step k41 _ 41 (by rfl) (N' := 30) rfl 22 _ _ rfl ji6 rfl rfl Tryd.underlying22 (.agg #[(.int .i64 0), (.int .i64 0), (.slice none 0 0), (.string ⟨#[]⟩)]) 56 info41 rfl (by decide) (by omega) z41 (ok := fun k_ => w12.heap.size ≤ k_) (okp := fun _ => False) (k41_mkF _ _ z41 (Nat.le_refl _) (Kd.F_nil _ _ _)) (fun _ hk => hk.elim) (Nat.le_refl _) (of_decide_eq_true hA_) (Nat.le_trans (Nat.mul_le_mul_right _ (of_decide_eq_true hA_ : ji6.toNat ≤ 5026338869833)) (by omega)) (Below.refl _ _) (Nat.le_refl _) ?_
                intro v422 w14 ho15 hb hg_ hnew_
                clear hg_ hnew_
                (first | rw [← Ny421.out] at ho15 | (simp only [Int.reduceToNat] at ho15; rw [← Ny421.out] at ho15))
                have n0_ := Aside0.mk (Kd.R_below (hR_ HO426.out) hb)
                have n1_ := Aside0.mk (Kd.N_lower (Kd.N_mono (ok' := fun k_ => some k_ ≠ (v425 : Value).ownBlock) ho15 (fun k_ hk_ => (Kd.fresh' (Kd.R_lt (hR_ HO426.out)) k_ hk_))) hS_)
                have n2_ := Aside0.mk (below_step hB_ hb)
                clear HO426
                clear HB
                have HO426 := n0_
                have HO423 := n1_
                have HB := n2_
                clear n0_ n1_ n2_
                clear hb ho15
                refine hK.out _ _ trivial (fun hHeld => ?_)
                clear hK K
                refine norm_ (a' := ?_) ?_ ?_
                rotate_left
                · show Act.put _ (some 30) _ = _
                  simp only [Act.put, List.setIfInBounds_toArray, List.set_cons_zero, List.set_cons_succ, i64_w, i32_w]
                  rfl
                refine pure_ (i := 4) (N := some 7) (v := ?_) (a' := ?_) #[true, true, true, true, true, false] rfl rfl (by kernel_rfl) (fun _ _ _ h => h) (Or.inl ⟨by rfl, ?_⟩) ?_ ?_
                rotate_left
                · intro w'
                  go_simp
                  with_reducible rfl
                rotate_left
                · simp only [Act.put, List.setIfInBounds_toArray, List.set_cons_zero, List.set_cons_succ, i64_w, i32_w]
                  rfl
                exact norm_ (by simp only [putAll, Act.put, List.setIfInBounds_toArray, List.set_cons_zero, List.set_cons_succ]) (hCont (v422, v425) _ ⟨(hN_ HO423.out), (hR_ HO426.out), hB_⟩)
            rintro ⟨v422, v425⟩ w16 ⟨h0_, h1_, h2_⟩
            have n0_ : Aside0 (Kd.N k41 41 w16 w.heap.size (fun k_ => some k_ ≠ (v425 : Value).ownBlock) v422 y421) := ⟨h0_⟩
            have n1_ : Aside0 (Kd.R (Kd.int .i64) 3 w16 w.heap.size (fun _ => True) v425 y424) := ⟨h1_⟩
            have n2_ : Aside0 (Below w.heap.size w w16) := ⟨h2_⟩
            clear HB
            clear h0_ h1_ h2_
            have HO423 := n0_
            have HO426 := n1_
            have HB := n2_
            clear n0_ n1_ n2_
            have hHeld := trivial
            refine norm_ (a' := ?_) ?_ ?_
            rotate_left
            · simp only [putAll, Act.put, List.setIfInBounds_toArray, List.set_cons_zero, List.set_cons_succ]
              rfl
            refine pure_ (i := 5) (N := some 8) (v := ?_) (a' := ?_) #[true, true, true, true, true, true] rfl rfl (by kernel_rfl) (fun _ _ _ h => h) (Or.inl ⟨by rfl, ?_⟩) ?_ ?_
            rotate_left
            · intro w'
              go_simp
              with_reducible rfl
            rotate_left
            · simp only [Act.put, List.setIfInBounds_toArray, List.set_cons_zero, List.set_cons_succ, i64_w, i32_w]
              rfl
            refine done_ (by kernel_rfl) ?_
            try go_wp2
            go_loopg [9] k (fun kq v9 w' => ∃ (x7_1 : List (S41)) (x9_1 : Int), v9 = .int .i64 x9_1 ∧ Aside0 (sleuthlaw19_HalfRow.l0 kq ji6 (wrap64 (Int.tmod (IntKind.u64.wrap (a1)) (IntKind.u64.wrap (wrap64 ((ji6) - 1))))) x7_1 y424 x9_1 = some r) ∧ Aside0 (kq ≤ k) ∧ Aside0 (Kd.N k41 41 w' w.heap.size (fun k_ => some k_ ≠ (v425 : Value).ownBlock) v422 x7_1) ∧ Aside0 (Kd.R (Kd.int .i64) 3 w' w.heap.size (fun _ => True) v425 y424) ∧ Aside0 (Below w.heap.size w w'))
            case atStart => exact ⟨(y421), (0), (by first | rfl | (simp; done) | (simp [*]; done)), H', ⟨Nat.le_refl _⟩, ⟨by (with_reducible repeat (first | apply Kd.N_alloc | apply Kd.N_drewN | apply Kd.N_drew)); exact HO423.out⟩, ⟨by (with_reducible repeat (first | apply Kd.R_alloc | apply Kd.R_drewN | apply Kd.R_drew)); exact HO426.out⟩, ⟨by repeat (first | (with_reducible first | exact HB.out | apply below_alloc | apply pw_below_drewN | apply below_drew1) | exact HB.out)⟩⟩
            case round =>
              clear H'
              try clear c1
              try clear c2
              try clear p2
              try clear c4
              try clear c5
              try clear c5b0
              try clear c5b1
              try clear p6
              try clear c7
              try clear c7b0
              try clear c7b1
              try clear c8
              try clear c8b0
              try clear c8b1
              try clear c9
              try clear c9b0
              try clear c9b1
              try clear c10
              try clear hji6
              try clear hji6w
              obtain ⟨x7_1, x9_1, rfl, HA, HK1, HO_7, HO_8, HB⟩ := hrel
              cases gk with
              | zero => exact absurd HA.out (by simp [sleuthlaw19_HalfRow.l0])
              | succ k1 =>
                have H := HA.out
                clear HA
                simp only [sleuthlaw19_HalfRow.l0] at H
                by_cases c17 : x9_1 < ji6
                · rw [if_pos c17] at H
                  have c17b0 : decide (x9_1 < ji6) = true := decide_eq_true c17
                  clear c17
                  by_cases c18 : 0 ≤ x9_1
                  · rw [if_pos c18] at H
                    have c18b0 : decide (0 ≤ x9_1) = true := decide_eq_true c18
                    clear c18
                    by_cases c19 : x9_1 < (x7_1.length : Int)
                    · rw [if_pos c19] at H
                      have c19b0 : decide (x9_1 < (x7_1.length : Int)) = true := decide_eq_true c19
                      clear c19
                      obtain ⟨y427, hy427⟩ : ∃ y_ : List (S41), y_ = (x7_1.set (x9_1 : Int).toNat (⟨0, wrap64 (x9_1 - 1), ([] : List ByteArray), (⟨#[49]⟩ : ByteArray)⟩ : S41)) := ⟨_, rfl⟩
                      replace H : (sleuthlaw19_HalfRow.l0 k1 ji6 (wrap64 (Int.tmod (IntKind.u64.wrap (a1)) (IntKind.u64.wrap (wrap64 ((ji6) - 1))))) y427 y424 (wrap64 (x9_1 + 1))) = some r := by first | (rw [hy427]; with_reducible exact H) | (have H2_ := (Option.bind_some _ _).symm.trans H; rw [hy427]; with_reducible exact H2_) | (have H2_ := (Option.bind_some _ _).symm.trans H; with_reducible exact H2_) | with_reducible exact H | (rw [hy427]; exact H) | exact H
                      have Ny427 := Aside0.mk hy427
                      clear hy427
                      have H' := Aside0.mk H
                      clear H
                      have p20 : 0 ≤ (x9_1 : Int) := of_decide_eq_true hA_
                      have q20 : (x9_1 : Int) < ((x7_1.length : Int) : Int) := of_decide_eq_true hA_
                      obtain ⟨go20, co20, eo20, gb20, gl20, cl20, HG20⟩ := Kd.N_form HO_7.out (by omega)
                      (first | cases eo20 | (injection eo20 with ea_ en_ ec_; (first | subst ea_ | (injection ea_ with ea_; subst ea_)); subst ec_; clear en_))
                      have GB20 := Aside0.mk gb20
                      have GG20 := Aside0.mk HG20
                      clear gb20 gl20 HG20
                      obtain ⟨ce20, hcl20, hM20, hcc20, hfr20⟩ := Kd.N_elem HO_7.out z41 (x9_1 : Int) p20 q20
                      obtain ⟨ua20_2, uc20_2, rfl, ul20_2, ge20_2⟩ := k41_openF hM20
                      have hx20_0 : wr.cell? ⟨go20, (x9_1 : Int).toNat * 4, none⟩ = some (.int .i64 ((rd_T41 x7_1 x9_1).f0)) := hcc20 0 _ rfl
                      have hx20_1 : wr.cell? ⟨go20, (x9_1 : Int).toNat * 4 + 1, none⟩ = some (.int .i64 ((rd_T41 x7_1 x9_1).f1)) := hcc20 1 _ rfl
                      have hx20_2 : wr.cell? ⟨go20, (x9_1 : Int).toNat * 4 + 2, none⟩ = some (.slice ua20_2 ((rd_T41 x7_1 x9_1).f2).length uc20_2) := hcc20 2 _ rfl
                      have hx20_3 : wr.cell? ⟨go20, (x9_1 : Int).toNat * 4 + 3, none⟩ = some (.string ((rd_T41 x7_1 x9_1).f3)) := hcc20 3 _ rfl
                      have hf20_0 : wr.frozen? ⟨go20, (x9_1 : Int).toNat * 4, none⟩ = false := hfr20 0
                      have hf20_1 : wr.frozen? ⟨go20, (x9_1 : Int).toNat * 4 + 1, none⟩ = false := hfr20 1
                      have hf20_2 : wr.frozen? ⟨go20, (x9_1 : Int).toNat * 4 + 2, none⟩ = false := hfr20 2
                      have hf20_3 : wr.frozen? ⟨go20, (x9_1 : Int).toNat * 4 + 3, none⟩ = false := hfr20 3
                      clear hcl20 hcc20 hfr20 hM20
                      replace p20 := eq_true p20
                      replace q20 := eq_true q20
                      have HX21 := Aside0.mk (show Kd.N k41 41 wr w.heap.size (fun k_ => some k_ ≠ (v425 : Value).ownBlock) (.slice (some ⟨go20, 0, none⟩) x7_1.length co20) x7_1 from (hN_ HO_7.out))
                      obtain ⟨ce21, hcl21, hM21, hcc21, hfr21⟩ := Kd.N_elem HX21.out z41 (x9_1 : Int) (of_decide_eq_true hA_) (by have h_ : (x9_1 : Int) < ((x7_1.length : Int) : Int) := of_decide_eq_true hA_; first | exact h_ | (have e_ := (Kd.N_reads' HO_7.out).1; omega) | simpa using h_)
                      obtain ⟨ua21_2, uc21_2, rfl, ul21_2, ge21_2⟩ := k41_openF hM21
                      have HP21 := Kd.N_seg HX21.out (x9_1 : Int) (of_decide_eq_true hA_) (by have h_ : (x9_1 : Int) < ((x7_1.length : Int) : Int) := of_decide_eq_true hA_; first | exact h_ | (have e_ := (Kd.N_reads' HO_7.out).1; omega) | simpa using h_) (seg := [.int .i64 0, .int .i64 (wrap64 (x9_1 - 1)), .slice none 0 0, .string (⟨#[49]⟩ : ByteArray)]) (j := 0) hcl21 hcc21 (show 4 ≤ 4 from by decide) (x' := (⟨0, wrap64 (x9_1 - 1), ([] : List ByteArray), (⟨#[49]⟩ : ByteArray)⟩ : S41)) (k41_mkF _ _ (⟨0, wrap64 (x9_1 - 1), ([] : List ByteArray), (⟨#[49]⟩ : ByteArray)⟩ : S41) (Nat.le_refl _) (Kd.F_nil _ _ _)) (fun _ hk => hk)
                      have hx21_0 := hcc21 0 _ rfl
                      (try simp only [show (k41).sz = 4 from rfl, Nat.mul_one, Nat.add_zero] at hx21_0)
                      have hf21_0 := hfr21 0
                      (try simp only [show (k41).sz = 4 from rfl, Nat.mul_one, Nat.add_zero] at hf21_0)
                      have hx21_1 := hcc21 1 _ rfl
                      (try simp only [show (k41).sz = 4 from rfl, Nat.mul_one, Nat.add_zero] at hx21_1)
                      have hf21_1 := hfr21 1
                      (try simp only [show (k41).sz = 4 from rfl, Nat.mul_one, Nat.add_zero] at hf21_1)
                      have hx21_2 := hcc21 2 _ rfl
                      (try simp only [show (k41).sz = 4 from rfl, Nat.mul_one, Nat.add_zero] at hx21_2)
                      have hf21_2 := hfr21 2
                      (try simp only [show (k41).sz = 4 from rfl, Nat.mul_one, Nat.add_zero] at hf21_2)
                      have hx21_3 := hcc21 3 _ rfl
                      (try simp only [show (k41).sz = 4 from rfl, Nat.mul_one, Nat.add_zero] at hx21_3)
                      have hf21_3 := hfr21 3
                      (try simp only [show (k41).sz = 4 from rfl, Nat.mul_one, Nat.add_zero] at hf21_3)
                      clear hcl21 hcc21 hfr21 hM21
                      go_wp2_with (first | ((with_reducible refine gate_store (t := 41) (p := 43) rfl ?_); refine store_event (t := 41) (p := 43) (v := ?vo_w22) (w1 := ((((wr.setCell ⟨go20, (x9_1 : Int).toNat * 4, none⟩ (.int .i64 0)).setCell ⟨go20, (x9_1 : Int).toNat * 4 + 1, none⟩ (.int .i64 (wrap64 (x9_1 - 1)))).setCell ⟨go20, (x9_1 : Int).toNat * 4 + 2, none⟩ (.slice none 0 0)).setCell ⟨go20, (x9_1 : Int).toNat * 4 + 3, none⟩ (.string (⟨#[49]⟩ : ByteArray)))) ?hg ?ho ?hn ?hr ?_; (case ho => rfl); (case hg => rfl); (case hn => rfl); (case hr => first | (go_simp; done) | (go_simp; rfl)); intro w22 hw; have hg : wr.grownBy w22 (some go20) := (by rw [hw]; exact HP21.2); have hp_ : Kd.N k41 41 w22 w.heap.size (fun k_ => some k_ ≠ (v425 : Value).ownBlock) (.slice (some ⟨go20, 0, none⟩) x7_1.length co20) y427 := (by rw [hw, Ny427.out]; exact HP21.1); clear HP21; have n0_ := Aside0.mk (hp_); have n1_ := Aside0.mk (Kd.R_over' (v := (.slice (some ⟨go20, 0, none⟩) x7_1.length co20)) (hR_ HO_8.out) (Kd.N_typed HO_7.out) (by decide) hg); have n2_ := Aside0.mk ((by rw [hw]; exact below_set (below_set (below_set (below_set (HB.out) GB20.out) GB20.out) GB20.out) GB20.out : Below w.heap.size w w22)); clear HO_7; clear HO_8; clear HB; have HO_7 := n0_; have HO_8 := n1_; have HB := n2_; clear n0_ n1_ n2_; clear hg hw hp_))
                      go_roundg k1
                      case measure => have := HK1.out; omega
                      case rel => exact ⟨(y427), (wrap64 (x9_1 + 1)), (by first | rfl | (simp; done) | (simp [*]; done)), H', ⟨by have := HK1.out; omega⟩, ⟨by (with_reducible repeat (first | apply Kd.N_alloc | apply Kd.N_drewN | apply Kd.N_drew)); exact HO_7.out⟩, ⟨by (with_reducible repeat (first | apply Kd.R_alloc | apply Kd.R_drewN | apply Kd.R_drew)); exact HO_8.out⟩, ⟨by repeat (first | (with_reducible first | exact HB.out | apply below_alloc | apply pw_below_drewN | apply below_drew1) | exact HB.out)⟩⟩
                    · rw [if_neg c19] at H
                      exact absurd H (by simp)
                  · rw [if_neg c18] at H
                    exact absurd H (by simp)
                · rw [if_neg c17] at H
                  have c17b0 : decide (x9_1 < ji6) = false := decide_eq_false c17
                  clear c17
                  by_cases c23 : 0 < (y424.length : Int)
                  · rw [if_pos c23] at H
                    have c23b0 : decide (0 < (y424.length : Int)) = true := decide_eq_true c23
                    have c23b1 : decide (0 < y424.length) = true := decide_eq_true (by omega)
                    clear c23
                    obtain ⟨y428, hy428⟩ : ∃ y_ : List Int, y_ = (y424.set (0 : Int).toNat 2) := ⟨_, rfl⟩
                    replace H : (if 0 ≤ (wrap64 (Int.tmod (IntKind.u64.wrap (a1)) (IntKind.u64.wrap (wrap64 ((ji6) - 1))))) then (if (wrap64 (Int.tmod (IntKind.u64.wrap (a1)) (IntKind.u64.wrap (wrap64 ((ji6) - 1))))) < (y424.length : Int) then ((half_Next.f k1 x7_1 (y428.set ((wrap64 (Int.tmod (IntKind.u64.wrap (a1)) (IntKind.u64.wrap (wrap64 ((ji6) - 1))))) : Int).toNat 2)).bind fun bt430 => (sleuthlaw19_HalfRow.l1 k1 ji6 (wrap64 (Int.tmod (IntKind.u64.wrap (a1)) (IntKind.u64.wrap (wrap64 ((ji6) - 1))))) bt430.2.2 (wrap64 ((wrap64 (ji6 - 1)) - (wrap64 (Int.tmod (IntKind.u64.wrap (a1)) (IntKind.u64.wrap (wrap64 ((ji6) - 1))))))) (wrap64 ((wrap64 (ji6 - 1)) - (wrap64 (Int.tmod (IntKind.u64.wrap (a1)) (IntKind.u64.wrap (wrap64 ((ji6) - 1))))))) 0 (wrap64 ((wrap64 (Int.tmod (IntKind.u64.wrap (a1)) (IntKind.u64.wrap (wrap64 ((ji6) - 1))))) + 1)) bt430.1 bt430.2.1)) else (none)) else (none)) = some r := by first | (rw [hy428]; with_reducible exact H) | (have H2_ := (Option.bind_some _ _).symm.trans H; rw [hy428]; with_reducible exact H2_) | (have H2_ := (Option.bind_some _ _).symm.trans H; with_reducible exact H2_) | with_reducible exact H | (rw [hy428]; exact H) | exact H
                    have Ny428 := Aside0.mk hy428
                    clear hy428
                    obtain ⟨ji25, hji25⟩ : ∃ j_ : Int, (wrap64 (Int.tmod (IntKind.u64.wrap (a1)) (IntKind.u64.wrap (wrap64 ((ji6) - 1))))) = j_ := ⟨_, rfl⟩
                    replace H : (if 0 ≤ (ji25) then (if (ji25) < (y424.length : Int) then ((half_Next.f k1 x7_1 (y428.set ((ji25) : Int).toNat 2)).bind fun bt430 => (sleuthlaw19_HalfRow.l1 k1 ji6 (ji25) bt430.2.2 (wrap64 ((wrap64 (ji6 - 1)) - (ji25))) (wrap64 ((wrap64 (ji6 - 1)) - (ji25))) 0 (wrap64 ((ji25) + 1)) bt430.1 bt430.2.1)) else (none)) else (none)) = some r := by first | (rw [hji25] at H; exact H) | (simp only [hji25] at H ⊢; exact H)
                    have hji25w : (IntKind.i64.wrap (Int.tmod (IntKind.u64.wrap (a1)) (IntKind.u64.wrap (wrap64 ((ji6) - 1))))) = ji25 := (i64_w _).trans hji25
                    by_cases c26 : 0 ≤ (ji25)
                    · rw [if_pos c26] at H
                      have c26b0 : decide (0 ≤ (ji25)) = true := decide_eq_true c26
                      clear c26
                      by_cases c27 : (ji25) < (y424.length : Int)
                      · rw [if_pos c27] at H
                        have c27b0 : decide ((ji25) < (y424.length : Int)) = true := decide_eq_true c27
                        clear c27
                        obtain ⟨y429, hy429⟩ : ∃ y_ : List Int, y_ = (y428.set ((ji25) : Int).toNat 2) := ⟨_, rfl⟩
                        replace H : ((half_Next.f k1 x7_1 y429).bind fun bt430 => (sleuthlaw19_HalfRow.l1 k1 ji6 (ji25) bt430.2.2 (wrap64 ((wrap64 (ji6 - 1)) - (ji25))) (wrap64 ((wrap64 (ji6 - 1)) - (ji25))) 0 (wrap64 ((ji25) + 1)) bt430.1 bt430.2.1)) = some r := by first | (rw [hy429]; with_reducible exact H) | (have H2_ := (Option.bind_some _ _).symm.trans H; rw [hy429]; with_reducible exact H2_) | (have H2_ := (Option.bind_some _ _).symm.trans H; with_reducible exact H2_) | with_reducible exact H | (rw [hy429]; exact H) | exact H
                        have Ny429 := Aside0.mk hy429
                        clear hy429
                        replace H := Option.bind_eq_some_iff.mp H
                        obtain ⟨⟨t430, t431, t432⟩, A290, H⟩ := H
                        replace H : (sleuthlaw19_HalfRow.l1 k1 ji6 (ji25) t432 (wrap64 ((wrap64 (ji6 - 1)) - (ji25))) (wrap64 ((wrap64 (ji6 - 1)) - (ji25))) 0 (wrap64 ((ji25) + 1)) t430 t431) = some r := H
                        have A29 := Aside0.mk A290
                        clear A290
                        have H' := Aside0.mk H
                        clear H
                        have p24 : 0 ≤ (0 : Int) := (by omega)
                        have q24 : (0 : Int) < ((y424.length : Int) : Int) := of_decide_eq_true hA_
                        have qi24 : (0 < y424.length) = True := eq_true (by omega)
                        obtain ⟨go24, co24, eo24, gb24, gl24, cl24, HG24⟩ := Kd.R_form HO_8.out (by omega)
                        (first | cases eo24 | (injection eo24 with ea_ en_ ec_; (first | subst ea_ | (injection ea_ with ea_; subst ea_)); subst ec_; clear en_))
                        have GB24 := Aside0.mk gb24
                        have GG24 := Aside0.mk HG24
                        clear gb24 gl24 HG24
                        obtain ⟨hx24_0, hf24_0⟩ := Kd.R_celln 0 HO_8.out (0 : Int) p24 q24
                        (try rw [show ((0 : Int)).toNat = 0 from rfl] at hx24_0)
                        (try simp only [Nat.reduceMul, Nat.zero_mul, Nat.zero_add, Nat.reduceAdd] at hx24_0)
                        (try rw [show ((0 : Int)).toNat = 0 from rfl] at hf24_0)
                        (try simp only [Nat.reduceMul, Nat.zero_mul, Nat.zero_add, Nat.reduceAdd] at hf24_0)
                        replace p24 := eq_true p24
                        replace q24 := eq_true q24
                        have HP30 := Kd.R_putg HO_8.out (0 : Int) 2
                        go_wp2_with (first | ((with_reducible refine gate_store (t := 3) (p := 45) rfl ?_); refine store_event (t := 3) (p := 45) (v := ?vo_w31) (w1 := (wr.setCell ⟨go24, (0 : Int).toNat, none⟩ (.int .i64 2))) ?hg ?ho ?hn ?hr ?_; (case ho => rfl); (case hg => rfl); (case hn => rfl); (case hr => first | (go_simp; done) | (go_simp; rfl)); intro w31 hw; have hg : wr.grownBy w31 (some go24) := (by rw [hw]; exact HP30.2); have hp_ : Kd.R (Kd.int .i64) 3 w31 w.heap.size (fun _ => True) (.slice (some ⟨go24, 0, none⟩) y424.length co24) y428 := (by rw [hw, Ny428.out]; exact HP30.1); clear HP30; have n0_ := Aside0.mk (Kd.N_afterv (v := (.slice (some ⟨go24, 0, none⟩) y424.length co24)) (v1 := (.slice (some ⟨go24, 0, none⟩) y424.length co24)) (ok := (fun _ => True)) (by (with_reducible repeat (first | apply Kd.N_alloc | apply Kd.N_drewN | apply Kd.N_drew)); exact Kd.N_mono HO_7.out (fun _ hk => ⟨trivial, hk⟩)) hg (.inl rfl)); have n1_ := Aside0.mk (hp_); have n2_ := Aside0.mk ((by rw [hw]; exact below_set (HB.out) GB24.out : Below w.heap.size w w31)); clear HO_7; clear HO_8; clear HB; have HO_7 := n0_; have HO_8 := n1_; have HB := n2_; clear n0_ n1_ n2_; clear hg hw hp_; have p28 : 0 ≤ ((ji25) : Int) := of_decide_eq_true hA_; have q28 : ((ji25) : Int) < ((y424.length : Int) : Int) := of_decide_eq_true hA_; obtain ⟨hx28_0, hf28_0⟩ := Kd.R_celln 0 HO_8.out ((ji25) : Int) p28 q28; replace p28 := eq_true p28; replace q28 := eq_true q28; obtain ⟨hy32_, hz32_⟩ := Kd.R_celln 0 HO_8.out ((ji25) : Int) (of_decide_eq_true hA_) (of_decide_eq_true hA_); have HP32 := Kd.R_putg HO_8.out ((ji25) : Int) 2) | ((with_reducible refine gate_store (t := 3) (p := 48) rfl ?_); refine store_event (t := 3) (p := 48) (v := ?vo_w33) (w1 := (w31.setCell ⟨go24, ((ji25) : Int).toNat, none⟩ (.int .i64 2))) ?hg ?ho ?hn ?hr ?_; (case ho => rfl); (case hg => rfl); (case hn => rfl); (case hr => first | (go_simp; done) | (go_simp; rfl)); intro w33 hw; have hg : w31.grownBy w33 (some go24) := (by rw [hw]; exact HP32.2); have hp_ : Kd.R (Kd.int .i64) 3 w33 w.heap.size (fun _ => True) (.slice (some ⟨go24, 0, none⟩) y424.length co24) y429 := (by rw [hw, Ny429.out]; exact HP32.1); clear HP32; have n0_ := Aside0.mk (Kd.N_afterv (v := (.slice (some ⟨go24, 0, none⟩) y424.length co24)) (v1 := (.slice (some ⟨go24, 0, none⟩) y424.length co24)) (ok := (fun _ => True)) (hN_ HO_7.out) hg (.inl rfl)); have n1_ := Aside0.mk (hp_); have n2_ := Aside0.mk ((by rw [hw]; exact below_set (HB.out) GB24.out : Below w.heap.size w w33)); clear HO_7; clear HO_8; clear HB; have HO_7 := n0_; have HO_8 := n1_; have HB := n2_; clear n0_ n1_ n2_; clear hg hw hp_; obtain ⟨Ao34, co34, eo34⟩ := Kd.N_slice HO_7.out; subst eo34) | ((with_reducible refine gate_callee (f := 25) rfl ?_); refine goesL_ (some 52) rfl rfl Tryd.func25 (by kernel_rfl) rfl #[.slice Ao34 x7_1.length co34, .slice (some ⟨go24, 0, none⟩) y429.length co24] rfl (by (try simp only [List.map_toArray, List.map_cons, List.map_nil]); first | done | (rw [show y429.length = y424.length from (Kd.R_reads' HO_8.out).1.symm] <;> rfl) | rfl | (simp only [List.length_drop, List.length_take]; rfl)) ?_; (with_reducible refine (half_Next.calls k1 _ _ x7_1 _ _ y429 t430 t431 t432 _ ?side1 ?side2 ?side3 ?side4 A29.out hG_).mono ?_); (case side1 => repeat (first | exact (Kd.N_reads' HO_7.out).2.2 | (with_reducible refine Kd.C_alloc ?_ _) | (with_reducible refine Kd.C_drewN ?_ _) | (with_reducible refine Kd.C_drew ?_))); (case side2 => exact (Kd.N_reads' HO_7.out).2.1); (case side3 => repeat (first | exact (Kd.R_reads' HO_8.out).2.2 | (with_reducible refine Kd.C_alloc ?_ _) | (with_reducible refine Kd.C_drewN ?_ _) | (with_reducible refine Kd.C_drew ?_))); (case side4 => rw [show y429.length = y424.length from (Kd.R_reads' HO_8.out).1.symm]; exact (Kd.R_reads' HO_8.out).2.1); rintro e w35 ⟨rfl, hb⟩; refine ⟨_, rfl, ?_⟩; have n0_ := Aside0.mk (Kd.N_below (hN_ HO_7.out) hb); have n1_ := Aside0.mk (Kd.R_below (hR_ HO_8.out) hb); have n2_ := Aside0.mk (below_step hB_ hb); clear HO_7; clear HO_8; clear HB; have HO_7 := n0_; have HO_8 := n1_; have HB := n2_; clear n0_ n1_ n2_; (try clear hb); (try clear hb2); (try clear hk); (try clear hi)) | ((with_reducible refine gate_dst (N := 10) rfl ?_); (try (refine gate_guard (by rfl) ?_; dsimp only)); refine box_event ?hg (N := 10) ?hd (cs := #[.int .i64 0, .int .i64 0]) (t := 27) ?hr ?_; (case hd => rfl); (case hg => rfl); (case hr => first | (go_simp; done) | (go_simp; rfl)); intro gb433 hg w36 hbox hb; have n0_ := Aside0.mk (Kd.N_below (Kd.N_elderB (hN_ HO_7.out) gb433 (Nat.le_of_eq hg.symm)) hb); have n1_ := Aside0.mk (Kd.R_below (hR_ HO_8.out) hb); have n2_ := Aside0.mk (below_step hB_ hb); have n3_ := Aside0.mk (hbox); have n4_ := Aside0.mk ((by rw [hg]; exact hS_ : w.heap.size ≤ gb433)); have n5_ := Aside0.mk ((by rw [hg]; exact hS_ : w.heap.size ≤ gb433)); clear HO_7; clear HO_8; clear HB; have HO_7 := n0_; have HO_8 := n1_; have HB := n2_; have BK433 := n3_; have GW433 := n4_; have GE433 := n5_; clear n0_ n1_ n2_ n3_ n4_ n5_; clear hb hbox hg; have hcz37_0 : w36.cell? ⟨gb433, 0, none⟩ = some (.int .i64 0) := (blk_cell BK433.out 0).trans rfl; have hcz37_1 : w36.cell? ⟨gb433, 1, none⟩ = some (.int .i64 0) := (blk_cell BK433.out 1).trans rfl; have hfz37_0 := blk_frozen BK433.out 0; have hfz37_1 := blk_frozen BK433.out 1))
                        (try simp only [Act.put, List.setIfInBounds_toArray, List.set_cons_zero, List.set_cons_succ])
                        go_loopg [13, 14, 15] k1 (fun kq v13 v14 v15 w' => ∃ (x13_2 : Int) (x14_2 : Int) (x15_2 : Int), v13 = .int .i64 x13_2 ∧ v14 = .int .i64 x14_2 ∧ v15 = .int .i64 x15_2 ∧ Aside0 (sleuthlaw19_HalfRow.l1 kq ji6 (ji25) t432 (wrap64 ((wrap64 (ji6 - 1)) - (ji25))) x13_2 x14_2 x15_2 t430 t431 = some r) ∧ Aside0 (kq ≤ k1) ∧ Aside0 (w'.heap[gb433]? = some (.cells #[.int .i64 t430, .int .i64 t431] 27 (0, 0))) ∧ Aside0 (Below w.heap.size w w'))
                        case atStart => exact ⟨(wrap64 ((wrap64 (ji6 - 1)) - (ji25))), (0), (wrap64 ((ji25) + 1)), (by first | rfl | (simp; done) | (simp only [← hji6, ← hji25] <;> (first | rfl | simp)) | (simp [*]; done)), (by first | rfl | (simp; done) | (simp [*]; done)), (by first | rfl | (simp; done) | (simp only [← hji25] <;> (first | rfl | simp)) | (simp [*]; done)), H', ⟨Nat.le_refl _⟩, ⟨by (with_reducible repeat (first | refine blk_drewN ?_ _ | refine blk_drew ?_ | refine blk_alloc ?_ _)); refine blk_put (cs := #[.int .i64 t430, .int .i64 0]) ?_ 1 _ rfl; (with_reducible repeat (first | refine blk_drewN ?_ _ | refine blk_drew ?_ | refine blk_alloc ?_ _)); refine blk_put (cs := #[.int .i64 0, .int .i64 0]) ?_ 0 _ rfl; (with_reducible repeat (first | refine blk_drewN ?_ _ | refine blk_drew ?_ | refine blk_alloc ?_ _)); exact BK433.out⟩, ⟨by repeat (first | (with_reducible first | exact HB.out | apply below_alloc | apply pw_below_drewN | apply below_drew1 | refine below_set ?_ GE433.out) | exact HB.out)⟩⟩
                        case round =>
                          clear H'
                          try clear c1
                          try clear c2
                          try clear p2
                          try clear q2
                          try clear hx2
                          try clear qi2
                          try clear hf2
                          try clear c4
                          try clear c5
                          try clear c5b0
                          try clear c5b1
                          try clear p6
                          try clear c7
                          try clear c7b0
                          try clear c7b1
                          try clear c8
                          try clear c8b0
                          try clear c8b1
                          try clear c9
                          try clear c9b0
                          try clear c9b1
                          try clear c10
                          try clear c17
                          try clear c17b0
                          try clear c18
                          try clear c18b0
                          try clear c19
                          try clear c19b0
                          try clear c20
                          try clear p20
                          try clear q20
                          try clear hx20
                          try clear hf20
                          try clear c21
                          try clear hx21
                          try clear hf21
                          try clear c23
                          try clear c23b0
                          try clear c23b1
                          try clear p24
                          try clear q24
                          try clear hx24
                          try clear qi24
                          try clear hf24
                          try clear c25
                          try clear c26
                          try clear c26b0
                          try clear c27
                          try clear c27b0
                          try clear p28
                          try clear q28
                          try clear hx28
                          try clear hf28
                          try clear hji25
                          try clear hji25w
                          try clear hji6
                          try clear hji6w
                          try clear hcz37_0
                          try clear hcz37_1
                          try clear hfz37_0
                          try clear hfz37_1
                          try clear hx20_0
                          try clear hx20_1
                          try clear hx20_2
                          try clear hx20_3
                          try clear hx21_0
                          try clear hx21_1
                          try clear hx21_2
                          try clear hx21_3
                          try clear hx24_0
                          try clear hx28_0
                          try clear p2
                          try clear p20
                          try clear p24
                          try clear p28
                          try clear p6
                          try clear q20
                          try clear q24
                          try clear q28
                          obtain ⟨x13_2, x14_2, x15_2, rfl, rfl, rfl, HA, HK2, BK433, HB⟩ := hrel
                          cases gk with
                          | zero => exact absurd HA.out (by simp [sleuthlaw19_HalfRow.l1])
                          | succ k2 =>
                            have H := HA.out
                            clear HA
                            simp only [sleuthlaw19_HalfRow.l1] at H
                            by_cases c38 : x15_2 < ji6
                            · rw [if_pos c38] at H
                              have c38b0 : decide (x15_2 < ji6) = true := decide_eq_true c38
                              clear c38
                              obtain ⟨ji39, hji39⟩ : ∃ j_ : Int, (mx (wrap64 ((wrap64 (2 * (wrap64 (ji6 - x15_2)))) - (wrap64 ((wrap64 (ji6 - 1)) - (ji25))))) (wrap64 ((wrap64 ((wrap64 (ji6 - 1)) - (ji25))) - (wrap64 (2 * (wrap64 (ji6 - x15_2))))))) = j_ := ⟨_, rfl⟩
                              replace H : (if x15_2 = (wrap64 ((ji25) + 1)) then (sleuthlaw19_HalfRow.l1 k2 ji6 (ji25) t432 (wrap64 ((wrap64 (ji6 - 1)) - (ji25))) ji39 x15_2 (wrap64 (x15_2 + 1)) t430 t431) else (if (ji39) < x13_2 then (sleuthlaw19_HalfRow.l1 k2 ji6 (ji25) t432 (wrap64 ((wrap64 (ji6 - 1)) - (ji25))) ji39 x15_2 (wrap64 (x15_2 + 1)) t430 t431) else (sleuthlaw19_HalfRow.l1 k2 ji6 (ji25) t432 (wrap64 ((wrap64 (ji6 - 1)) - (ji25))) x13_2 x14_2 (wrap64 (x15_2 + 1)) t430 t431))) = some r := by first | (rw [hji39] at H; exact H) | (simp only [hji39] at H ⊢; exact H)
                              have hji39_ : (if (wrap64 ((wrap64 (2 * (wrap64 (ji6 - x15_2)))) - (wrap64 ((wrap64 (ji6 - 1)) - (ji25))))) < (wrap64 ((wrap64 ((wrap64 (ji6 - 1)) - (ji25))) - (wrap64 (2 * (wrap64 (ji6 - x15_2)))))) then (wrap64 ((wrap64 ((wrap64 (ji6 - 1)) - (ji25))) - (wrap64 (2 * (wrap64 (ji6 - x15_2)))))) else (wrap64 ((wrap64 (2 * (wrap64 (ji6 - x15_2)))) - (wrap64 ((wrap64 (ji6 - 1)) - (ji25)))))) = ji39 := hji39
                              by_cases c40 : x15_2 = (wrap64 ((ji25) + 1))
                              · rw [if_pos c40] at H
                                have c40b0 : (x15_2 == (wrap64 ((ji25) + 1))) = true := beq_iff_eq.mpr c40
                                have c40b1 : (x15_2 != (wrap64 ((ji25) + 1))) = false := bne_eq_false_iff_eq.mpr c40
                                (try (have c40b0w := c40b0; (rw [show wrap64 ((ji25) + 1) = ((ji25) + 1) from by unfold wrap64; omega] at c40b0w)))
                                (try (have c40b1w := c40b1; (rw [show wrap64 ((ji25) + 1) = ((ji25) + 1) from by unfold wrap64; omega] at c40b1w)))
                                clear c40
                                have H' := Aside0.mk H
                                clear H
                                go_wp2
                                go_roundg k2
                                case measure => have := HK1.out; have := HK2.out; omega
                                case rel => exact ⟨(ji39), (x15_2), (wrap64 (x15_2 + 1)), (by first | rfl | (simp; done) | (simp only [← hji39] <;> (first | rfl | simp)) | (simp [*]; done)), (by first | rfl | (simp; done) | (simp [*]; done)), (by first | rfl | (simp; done) | (simp [*]; done)), H', ⟨by have := HK1.out; have := HK2.out; omega⟩, ⟨by (with_reducible repeat (first | refine blk_drewN ?_ _ | refine blk_drew ?_ | refine blk_alloc ?_ _)); exact BK433.out⟩, ⟨by repeat (first | (with_reducible first | exact HB.out | apply below_alloc | apply pw_below_drewN | apply below_drew1 | refine below_set ?_ GE433.out) | exact HB.out)⟩⟩
                              · rw [if_neg c40] at H
                                have c40b0 : (x15_2 == (wrap64 ((ji25) + 1))) = false := beq_eq_false_iff_ne.mpr c40
                                have c40b1 : (x15_2 != (wrap64 ((ji25) + 1))) = true := bne_iff_ne.mpr c40
                                (try (have c40b0w := c40b0; (rw [show wrap64 ((ji25) + 1) = ((ji25) + 1) from by unfold wrap64; omega] at c40b0w)))
                                (try (have c40b1w := c40b1; (rw [show wrap64 ((ji25) + 1) = ((ji25) + 1) from by unfold wrap64; omega] at c40b1w)))
                                by_cases c41 : (ji39) < x13_2
                                · rw [if_pos c41] at H
                                  have c41b0 : decide ((ji39) < x13_2) = true := decide_eq_true c41
                                  clear c41
                                  have H' := Aside0.mk H
                                  clear H
                                  go_wp2
                                  go_roundg k2
                                  case measure => have := HK1.out; have := HK2.out; omega
                                  case rel => exact ⟨(ji39), (x15_2), (wrap64 (x15_2 + 1)), (by first | rfl | (simp; done) | (simp only [← hji39] <;> (first | rfl | simp)) | (simp [*]; done)), (by first | rfl | (simp; done) | (simp [*]; done)), (by first | rfl | (simp; done) | (simp [*]; done)), H', ⟨by have := HK1.out; have := HK2.out; omega⟩, ⟨by (with_reducible repeat (first | refine blk_drewN ?_ _ | refine blk_drew ?_ | refine blk_alloc ?_ _)); exact BK433.out⟩, ⟨by repeat (first | (with_reducible first | exact HB.out | apply below_alloc | apply pw_below_drewN | apply below_drew1 | refine below_set ?_ GE433.out) | exact HB.out)⟩⟩
                                · rw [if_neg c41] at H
                                  have c41b0 : decide ((ji39) < x13_2) = false := decide_eq_false c41
                                  clear c41
                                  have H' := Aside0.mk H
                                  clear H
                                  go_wp2
                                  go_roundg k2
                                  case measure => have := HK1.out; have := HK2.out; omega
                                  case rel => exact ⟨(x13_2), (x14_2), (wrap64 (x15_2 + 1)), (by first | rfl | (simp; done) | (simp [*]; done)), (by first | rfl | (simp; done) | (simp [*]; done)), (by first | rfl | (simp; done) | (simp [*]; done)), H', ⟨by have := HK1.out; have := HK2.out; omega⟩, ⟨by (with_reducible repeat (first | refine blk_drewN ?_ _ | refine blk_drew ?_ | refine blk_alloc ?_ _)); exact BK433.out⟩, ⟨by repeat (first | (with_reducible first | exact HB.out | apply below_alloc | apply pw_below_drewN | apply below_drew1 | refine below_set ?_ GE433.out) | exact HB.out)⟩⟩
                            · rw [if_neg c38] at H
                              have c38b0 : decide (x15_2 < ji6) = false := decide_eq_false c38
                              clear c38
                              replace H := Option.bind_eq_some_iff.mp H
                              obtain ⟨t434, A420, H⟩ := H
                              replace H : (if t434 = 0 then (if (t430 == 0 && (t431 == x14_2)) = true then ((sleuthlaw19_some.f).bind fun t435 => (some ((t435.length : Int) == 5))) else (none)) else (none)) = some r := H
                              have A42 := Aside0.mk A420
                              clear A420
                              by_cases c43 : t434 = 0
                              · rw [if_pos c43] at H
                                have c43b0 : (t434 == 0) = true := beq_iff_eq.mpr c43
                                have c43b1 : (t434 != 0) = false := bne_eq_false_iff_eq.mpr c43
                                clear c43
                                by_cases c44 : (t430 == 0 && (t431 == x14_2)) = true
                                · rw [if_pos c44] at H
                                  have c44b0 : (t430 == 0 && (t431 == x14_2)) = true := c44
                                  (try (have c44b1 : decide (t430 = 0 && (t431 == x14_2)) = true := by simpa using c44))
                                  (try (have c44b2 : (t430 == 0 && (t431 == x14_2)) = true := by simpa using c44))
                                  clear c44
                                  replace H := Option.bind_eq_some_iff.mp H
                                  obtain ⟨t435, A450, H⟩ := H
                                  replace H : (some ((t435.length : Int) == 5)) = some r := H
                                  have A45 := Aside0.mk A450
                                  clear A450
                                  obtain rfl := Option.some.inj H
                                  go_wp2_with (first | ((with_reducible refine gate_callee (f := 17) rfl ?_); refine goesL_ (some 92) rfl rfl Tryd.func17 (by kernel_rfl) rfl #[.int .i64 t432] rfl hL_ ?_; (with_reducible refine (sleuthlaw0_Num.calls t432 t434 _ A42.out).mono ?_); rintro e w' ⟨rfl, ⟨nd, rfl⟩⟩; refine ⟨_, rfl, ?_⟩; have hcz46_0 : wr.cell? ⟨gb433, 0, none⟩ = some (.int .i64 t430) := (blk_cell BK433.out 0).trans rfl; have hcz46_1 : wr.cell? ⟨gb433, 1, none⟩ = some (.int .i64 t431) := (blk_cell BK433.out 1).trans rfl; have hfz46_0 := blk_frozen BK433.out 0; have hfz46_1 := blk_frozen BK433.out 1) | (go_at_call 24; (with_reducible refine (sleuthlaw19_some.calls  t435 _ A45.out).mono ?_); rintro e w47 ⟨v436, rfl, ho0, hb⟩; have n0_ := Aside0.mk (Kd.N_lower (Kd.N_mono (ok' := fun k_ => k_ ≠ gb433) ho0 (fun k_ hk_ => (Kd.freshB (g := gb433) (o := .cells #[.int .i64 t430, .int .i64 t431] 27 (0, 0)) (by (with_reducible repeat (first | refine blk_drewN ?_ _ | refine blk_drew ?_ | refine blk_alloc ?_ _)); exact BK433.out) k_ hk_))) (below_size (by repeat (first | (with_reducible first | exact HB.out | apply below_alloc | apply pw_below_drewN | apply below_drew1 | refine below_set ?_ GE433.out) | exact HB.out)))); have n1_ := Aside0.mk (blk_below (g := gb433) (o := .cells #[.int .i64 t430, .int .i64 t431] 27 (0, 0)) (by (with_reducible repeat (first | refine blk_drewN ?_ _ | refine blk_drew ?_ | refine blk_alloc ?_ _)); exact BK433.out) hb); have n2_ := Aside0.mk (below_step (by repeat (first | (with_reducible first | exact HB.out | apply below_alloc | apply pw_below_drewN | apply below_drew1 | refine below_set ?_ GE433.out) | exact HB.out)) hb); clear BK433; clear HB; have HO437 := n0_; have BK433 := n1_; have HB := n2_; clear n0_ n1_ n2_; (try clear hb); (try clear hb2); (try clear hk); (try clear hi); (try clear ho0); obtain ⟨Ao48, co48, eo48⟩ := Kd.N_slice HO437.out; subst eo48))
                                  go_ret
                                  exact ⟨by first | rfl | (simp [errW_none, errW_some] <;> rfl) | (simp only [← hji6, ← hji25]; first | rfl | (simp [errW_none, errW_some] <;> rfl)) | (simp [*, errW_none, errW_some] <;> rfl), by repeat (first | (with_reducible first | exact HB.out | apply below_alloc | apply pw_below_drewN | apply below_drew1 | refine below_set ?_ GE433.out) | exact HB.out)⟩
                                · rw [if_neg c44] at H
                                  have c44b0 : (t430 == 0 && (t431 == x14_2)) = false := by simpa using c44
                                  (try (have c44b1 : decide (t430 = 0 && (t431 == x14_2)) = false := by simpa using c44))
                                  (try (have c44b2 : (t430 == 0 && (t431 == x14_2)) = false := by simpa using c44))
                                  (try (have c44b3 : ¬ (t430 = 0 && (t431 == x14_2)) := by simpa using c44))
                                  clear c44
                                  cases H
                              · rw [if_neg c43] at H
                                have c43b0 : (t434 == 0) = false := beq_eq_false_iff_ne.mpr c43
                                have c43b1 : (t434 != 0) = true := bne_iff_ne.mpr c43
                                cases H
                      · rw [if_neg c27] at H
                        exact absurd H (by simp)
                    · rw [if_neg c26] at H
                      exact absurd H (by simp)
                  · rw [if_neg c23] at H
                    exact absurd H (by simp)
          · rw [if_neg c9] at H
            exact absurd H (by simp)
        · rw [if_neg c8] at H
          exact absurd H (by simp)
      · rw [if_neg c7] at H
        exact absurd H (by simp)
  · replace c4 := Bool.eq_false_iff.mpr c4
    subst c4
    have H1 : (none) = some r := by rw [if_neg (show ¬ (false = true) by decide)] at H; exact H
    clear H
    have H := H1
    clear H1
    cases H
/-- THE ONE PURE STATEMENT of sleuthlaw19_HalfRow: yours. -/
def sleuthlaw19_HalfRow.Pure : Prop := ∀ (a0 : Int) (a1 : Int), (Lit.int .i64 a0).wf = true → (Lit.int .i64 a1).wf = true → ∃ k, sleuthlaw19_HalfRow.f k a0 a1 = some true
theorem sleuthlaw19_HalfRow.walk (P : sleuthlaw19_HalfRow.Pure) (a0 : Int) (a1 : Int) (w : World) (w0 : (Lit.int .i64 a0).wf = true) (w1 : (Lit.int .i64 a1).wf = true) (hG : GOK w) :
    Calls Tryd.prog 10 #[.int .i64 a0, .int .i64 a1] w fun e w' => e = .returned (.bool true) ∧ Below w.heap.size w w' := by
  obtain ⟨k, h⟩ := P a0 a1 w0 w1
  refine (sleuthlaw19_HalfRow.calls k a0 a1 true w h hG).mono ?_
  rintro e w' ⟨rfl, hd⟩
  exact ⟨rfl, hd⟩

end Go.Proofs.YtpbobdgenjhjoaaDoor.G
