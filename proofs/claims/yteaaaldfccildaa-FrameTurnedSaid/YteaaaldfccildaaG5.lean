-- Laid by the session's own driver gp.py over the kit's printer. Not trusted: Lean checks it.
import Derived.Test.YteaaaldfccildaaG0
import Derived.Test.YteaaaldfccildaaG3
namespace Go.Proofs.Yteaaaldfccildaa.G
open Go.RowKit Go.Proofs.YteaaaldfccildaaW.PrintWords Go.Proofs.YteaaaldfccildaaW.PrintLast Go.Proofs.YteaaaldfccildaaW.PrintMore
attribute [local go_sem] max2_int min2_int max_two min_two max_three min_three max_four min_four   -- for this text's walks alone
set_option linter.unusedVariables false
set_option linter.unusedSimpArgs false

/-! ### sleuthref12_GetFrame: function 11 -/
mutual
def sleuthref12_GetFrame.j0 : Nat → ByteArray → Int → Bool → Option (ByteArray × Int × Int)
  | 0, _, _, _ => none
  | k + 1, x0, x1, x25 => if x25 = true then (some ((⟨#[]⟩ : ByteArray), 0, 1600)) else (if 0 ≤ x1 then (if x1 < (x0.size : Int) then (if 0 ≤ (wrap64 (x1 + 1)) then (if (wrap64 (x1 + 1)) < (x0.size : Int) then (if (wrap64 ((wrap64 (bt x0 x1)) + (wrap64 (256 * (wrap64 (bt x0 (wrap64 (x1 + 1)))))))) > 8192 then (sleuthref12_GetFrame.j1 k x0 x1 (wrap64 ((wrap64 (bt x0 x1)) + (wrap64 (256 * (wrap64 (bt x0 (wrap64 (x1 + 1)))))))) true) else (sleuthref12_GetFrame.j1 k x0 x1 (wrap64 ((wrap64 (bt x0 x1)) + (wrap64 (256 * (wrap64 (bt x0 (wrap64 (x1 + 1)))))))) (decide ((wrap64 ((x0.size : Int) - x1)) < (wrap64 (6 + (wrap64 ((wrap64 (bt x0 x1)) + (wrap64 (256 * (wrap64 (bt x0 (wrap64 (x1 + 1)))))))))))))) else (none)) else (none)) else (none)) else (none))
def sleuthref12_GetFrame.j1 : Nat → ByteArray → Int → Int → Bool → Option (ByteArray × Int × Int)
  | 0, _, _, _, _ => none
  | k + 1, x0, x1, x7, x47 => if x47 = true then (some ((⟨#[]⟩ : ByteArray), 0, 1600)) else (if 0 ≤ (wrap64 (x1 + 2)) then (if (wrap64 (x1 + 2)) ≤ (wrap64 ((wrap64 (x1 + 2)) + x7)) then (if (wrap64 ((wrap64 (x1 + 2)) + x7)) ≤ (x0.size : Int) then ((sleuthref12_PutFrame.f k (x0.extract ((wrap64 (x1 + 2)) : Int).toNat ((wrap64 ((wrap64 (x1 + 2)) + x7)) : Int).toNat)).bind fun bt127 => (if 0 ≤ x1 then (if x1 ≤ (wrap64 ((wrap64 (x1 + 6)) + x7)) then (if (wrap64 ((wrap64 (x1 + 6)) + x7)) ≤ (x0.size : Int) then (if bt127.1.toList = (x0.extract (x1 : Int).toNat ((wrap64 ((wrap64 (x1 + 6)) + x7)) : Int).toNat).toList then (some (x0.extract ((wrap64 (x1 + 2)) : Int).toNat ((wrap64 ((wrap64 (x1 + 2)) + x7)) : Int).toNat, wrap64 ((wrap64 (x1 + 6)) + x7), 0)) else (some ((⟨#[]⟩ : ByteArray), 0, 1600))) else (none)) else (none)) else (none))) else (none)) else (none)) else (none))
end
def sleuthref12_GetFrame.f (k : Nat) (a0 : ByteArray) (a1 : Int) : Option (ByteArray × Int × Int) := if a1 < 0 then (sleuthref12_GetFrame.j0 k a0 a1 true) else (if a1 > (a0.size : Int) then (sleuthref12_GetFrame.j0 k a0 a1 true) else (sleuthref12_GetFrame.j0 k a0 a1 (decide ((wrap64 ((a0.size : Int) - a1)) < 6))))
theorem sleuthref12_GetFrame.mono_l : ∀ k, (∀ y0 y1 y2, LeO (sleuthref12_GetFrame.j0 k y0 y1 y2) (sleuthref12_GetFrame.j0 (k + 1) y0 y1 y2)) ∧ (∀ y0 y1 y2 y3, LeO (sleuthref12_GetFrame.j1 k y0 y1 y2 y3) (sleuthref12_GetFrame.j1 (k + 1) y0 y1 y2 y3))
  | 0 => ⟨fun _ _ _ r h => by simp [sleuthref12_GetFrame.j0] at h, fun _ _ _ _ r h => by simp [sleuthref12_GetFrame.j1] at h⟩
  | k + 1 => by
    obtain ⟨ih0, ih1⟩ := sleuthref12_GetFrame.mono_l k
    refine ⟨?_, ?_⟩
    · intro y0 y1 y2
      unfold sleuthref12_GetFrame.j0
      repeat' first
      | (with_reducible exact ih0 _ _ _)
      | (with_reducible exact ih1 _ _ _ _)
      | (with_reducible exact sleuthref12_PutFrame.mono _ _)
      | (with_reducible exact LeO.refl _)
      | (with_reducible exact LeO.none _)
      | (with_reducible refine LeO.ite ?_ ?_)
      | (with_reducible refine LeO.bind ?_ (fun _ => ?_))
      | exact ih0 _ _ _
      | exact ih1 _ _ _ _
      | exact sleuthref12_PutFrame.mono _ _
      | exact LeO.none _
      | refine LeO.ite ?_ ?_
      | refine LeO.bind ?_ (fun _ => ?_)
    · intro y0 y1 y2 y3
      unfold sleuthref12_GetFrame.j1
      repeat' first
      | (with_reducible exact ih0 _ _ _)
      | (with_reducible exact ih1 _ _ _ _)
      | (with_reducible exact sleuthref12_PutFrame.mono _ _)
      | (with_reducible exact LeO.refl _)
      | (with_reducible exact LeO.none _)
      | (with_reducible refine LeO.ite ?_ ?_)
      | (with_reducible refine LeO.bind ?_ (fun _ => ?_))
      | exact ih0 _ _ _
      | exact ih1 _ _ _ _
      | exact sleuthref12_PutFrame.mono _ _
      | exact LeO.none _
      | refine LeO.ite ?_ ?_
      | refine LeO.bind ?_ (fun _ => ?_)
theorem sleuthref12_GetFrame.mono : ∀ a0 a1 k, LeO (sleuthref12_GetFrame.f k a0 a1) (sleuthref12_GetFrame.f (k + 1) a0 a1) := by
  intro a0 a1 k
  obtain ⟨ih0, ih1⟩ := sleuthref12_GetFrame.mono_l k
  unfold sleuthref12_GetFrame.f
  repeat' first
      | (with_reducible exact ih0 _ _ _)
      | (with_reducible exact ih1 _ _ _ _)
      | (with_reducible exact sleuthref12_PutFrame.mono _ _)
      | (with_reducible exact LeO.refl _)
      | (with_reducible exact LeO.none _)
      | (with_reducible refine LeO.ite ?_ ?_)
      | (with_reducible refine LeO.bind ?_ (fun _ => ?_))
      | exact ih0 _ _ _
      | exact ih1 _ _ _ _
      | exact sleuthref12_PutFrame.mono _ _
      | exact LeO.none _
      | refine LeO.ite ?_ ?_
      | refine LeO.bind ?_ (fun _ => ?_)
set_option maxHeartbeats 8000000 in
set_option maxRecDepth 100000 in
theorem sleuthref12_GetFrame.calls (k : Nat) (a0 : ByteArray) (a1 : Int) (r1 : ByteArray) (r2 : Int) (r3 : Int) (w : World) (h : sleuthref12_GetFrame.f k a0 a1 = some (r1, r2, r3)) :
    Calls Try.prog 11 #[.string a0, .int .i64 a1] w fun e w' => e = .returned (.tuple #[.string r1, .int .i64 r2, .int .i64 r3]) ∧ Below w.heap.size w w' := by
  have HB := Aside0.mk (Below.refl w.heap.size w)
  have H : (if a1 < 0 then (sleuthref12_GetFrame.j0 k a0 a1 true) else (if a1 > (a0.size : Int) then (sleuthref12_GetFrame.j0 k a0 a1 true) else (sleuthref12_GetFrame.j0 k a0 a1 (decide ((wrap64 ((a0.size : Int) - a1)) < 6))))) = some (r1, r2, r3) := h
  clear h
  have HC3 := Aside0.mk H
  clear H
  go_enter Try.func11, Try.ntmps11
  go_upto_region 1 with (fail)
  repeat (go_quiet (fail); go_upto_region 1 with (fail))
  go_cut [25] (fun v25 wc => ∃ (kq : Nat) (x25_2 : Bool), v25 = .bool x25_2 ∧ Aside0 (sleuthref12_GetFrame.j0 kq a0 a1 x25_2 = some (r1, r2, r3)) ∧ Aside0 (kq ≤ k) ∧ Aside0 (Below w.heap.size w wc))
  case first =>
    have H := HC3.out
    clear HC3
    by_cases c4 : a1 < 0
    · rw [if_pos c4] at H
      have c4b0 : decide (a1 < 0) = true := decide_eq_true c4
      clear c4
      (first | rw [c4b0] | (simp only [i64_w, i32_w]; rw [c4b0]) | skip)
      have H' := Aside0.mk H
      clear H
      go_wp2
      repeat (go_quiet (fail); try go_wp2)
      go_meet
      case rel => exact ⟨_, (true), (by first | rfl | (simp; done) | (simp [*]; done)), H', ⟨by first | omega | exact Nat.le_refl _⟩, ⟨by repeat (first | (with_reducible first | exact HB.out | apply below_alloc | apply pw_below_drewN | apply below_drew1) | exact HB.out)⟩⟩
    · rw [if_neg c4] at H
      have c4b0 : decide (a1 < 0) = false := decide_eq_false c4
      clear c4
      (first | rw [c4b0] | (simp only [i64_w, i32_w]; rw [c4b0]) | skip)
      by_cases c5 : a1 > (a0.size : Int)
      · rw [if_pos c5] at H
        have c5b0 : decide ((a0.size : Int) < a1) = true := decide_eq_true c5
        clear c5
        have H' := Aside0.mk H
        clear H
        go_wp2
        repeat (go_quiet (fail); try go_wp2)
        go_meet
        case rel => exact ⟨_, (true), (by first | rfl | (simp; done) | (simp [*]; done)), H', ⟨by first | omega | exact Nat.le_refl _⟩, ⟨by repeat (first | (with_reducible first | exact HB.out | apply below_alloc | apply pw_below_drewN | apply below_drew1) | exact HB.out)⟩⟩
      · rw [if_neg c5] at H
        have c5b0 : decide ((a0.size : Int) < a1) = false := decide_eq_false c5
        clear c5
        have H' := Aside0.mk H
        clear H
        go_wp2
        repeat (go_quiet (fail); try go_wp2)
        go_meet
        case rel => exact ⟨_, (decide ((wrap64 ((a0.size : Int) - a1)) < 6)), (by first | rfl | (simp; done) | (simp [*]; done)), H', ⟨by first | omega | exact Nat.le_refl _⟩, ⟨by repeat (first | (with_reducible first | exact HB.out | apply below_alloc | apply pw_below_drewN | apply below_drew1) | exact HB.out)⟩⟩
  case rest =>
    clear HC3
    try clear c1
    try clear p2
    try clear c4
    try clear c4b0
    try clear c5
    try clear c5b0
    obtain ⟨kq, x25_2, rfl, HA, HJ2, HB⟩ := hcut
    cases kq with
    | zero => exact absurd HA.out (by simp [sleuthref12_GetFrame.j0])
    | succ kj2 =>
      have H := HA.out
      clear HA
      simp only [sleuthref12_GetFrame.j0] at H
      by_cases c6 : x25_2 = true
      · subst c6
        have H1 : (some ((⟨#[]⟩ : ByteArray), 0, 1600)) = some (r1, r2, r3) := by rw [if_pos rfl] at H; exact H
        clear H
        have H := H1
        clear H1
        simp only [Option.some.injEq, Prod.mk.injEq] at H
        obtain ⟨rfl, rfl, rfl⟩ := H
        go_wp2
        repeat (go_quiet (fail); try go_wp2)
        go_ret3
        exact ⟨by first | rfl | (simp [errW_none, errW_some] <;> rfl) | (simp [*, errW_none, errW_some] <;> rfl), by repeat (first | (with_reducible first | exact HB.out | apply below_alloc | apply pw_below_drewN | apply below_drew1) | exact HB.out)⟩
      · replace c6 := Bool.eq_false_iff.mpr c6
        subst c6
        have H1 : (if 0 ≤ a1 then (if a1 < (a0.size : Int) then (if 0 ≤ (wrap64 (a1 + 1)) then (if (wrap64 (a1 + 1)) < (a0.size : Int) then (if (wrap64 ((wrap64 (bt a0 a1)) + (wrap64 (256 * (wrap64 (bt a0 (wrap64 (a1 + 1)))))))) > 8192 then (sleuthref12_GetFrame.j1 kj2 a0 a1 (wrap64 ((wrap64 (bt a0 a1)) + (wrap64 (256 * (wrap64 (bt a0 (wrap64 (a1 + 1)))))))) true) else (sleuthref12_GetFrame.j1 kj2 a0 a1 (wrap64 ((wrap64 (bt a0 a1)) + (wrap64 (256 * (wrap64 (bt a0 (wrap64 (a1 + 1)))))))) (decide ((wrap64 ((a0.size : Int) - a1)) < (wrap64 (6 + (wrap64 ((wrap64 (bt a0 a1)) + (wrap64 (256 * (wrap64 (bt a0 (wrap64 (a1 + 1)))))))))))))) else (none)) else (none)) else (none)) else (none)) = some (r1, r2, r3) := by rw [if_neg (show ¬ (false = true) by decide)] at H; exact H
        clear H
        have H := H1
        clear H1
        by_cases c7 : 0 ≤ a1
        · rw [if_pos c7] at H
          have c7b0 : decide (0 ≤ a1) = true := decide_eq_true c7
          clear c7
          by_cases c8 : a1 < (a0.size : Int)
          · rw [if_pos c8] at H
            have c8b0 : decide (a1 < (a0.size : Int)) = true := decide_eq_true c8
            clear c8
            obtain ⟨ji10, hji10⟩ : ∃ j_ : Int, (wrap64 (a1 + 1)) = j_ := ⟨_, rfl⟩
            replace H : (if 0 ≤ (ji10) then (if (ji10) < (a0.size : Int) then (if (wrap64 ((wrap64 (bt a0 a1)) + (wrap64 (256 * (wrap64 (bt a0 (ji10))))))) > 8192 then (sleuthref12_GetFrame.j1 kj2 a0 a1 (wrap64 ((wrap64 (bt a0 a1)) + (wrap64 (256 * (wrap64 (bt a0 (ji10))))))) true) else (sleuthref12_GetFrame.j1 kj2 a0 a1 (wrap64 ((wrap64 (bt a0 a1)) + (wrap64 (256 * (wrap64 (bt a0 (ji10))))))) (decide ((wrap64 ((a0.size : Int) - a1)) < (wrap64 (6 + (wrap64 ((wrap64 (bt a0 a1)) + (wrap64 (256 * (wrap64 (bt a0 (ji10))))))))))))) else (none)) else (none)) = some (r1, r2, r3) := by first | (rw [hji10] at H; exact H) | (simp only [hji10] at H ⊢; exact H)
            have hji10w : (IntKind.i64.wrap (a1 + 1)) = ji10 := (i64_w _).trans hji10
            by_cases c11 : 0 ≤ (ji10)
            · rw [if_pos c11] at H
              have c11b0 : decide (0 ≤ (ji10)) = true := decide_eq_true c11
              clear c11
              by_cases c12 : (ji10) < (a0.size : Int)
              · rw [if_pos c12] at H
                have c12b0 : decide ((ji10) < (a0.size : Int)) = true := decide_eq_true c12
                clear c12
                have HC14 := Aside0.mk H
                clear H
                have p9 : 0 ≤ (a1 : Int) := of_decide_eq_true (by first | (with_reducible assumption) | assumption)
                have q9 : a1 < (a0.size : Int) := of_decide_eq_true (by first | (with_reducible assumption) | assumption)
                have hx9 := bt_at a0 a1
                replace p9 := eq_true p9
                replace q9 := eq_true q9
                have p13 : 0 ≤ ((ji10) : Int) := of_decide_eq_true (by first | (with_reducible assumption) | assumption)
                have q13 : (ji10) < (a0.size : Int) := of_decide_eq_true (by first | (with_reducible assumption) | assumption)
                have hx13 := bt_at a0 (ji10)
                replace p13 := eq_true p13
                replace q13 := eq_true q13
                go_upto_region 4 with (fail)
                repeat (go_quiet (fail); go_upto_region 4 with (fail))
                go_cut [47] (fun v47 wc => ∃ (kq : Nat) (x47_13 : Bool), v47 = .bool x47_13 ∧ Aside0 (sleuthref12_GetFrame.j1 kq a0 a1 (wrap64 ((wrap64 (bt a0 a1)) + (wrap64 (256 * (wrap64 (bt a0 (ji10))))))) x47_13 = some (r1, r2, r3)) ∧ Aside0 (kq ≤ kj2) ∧ Aside0 (Below w.heap.size w wc))
                case first =>
                  have H := HC14.out
                  clear HC14
                  by_cases c15 : (wrap64 ((wrap64 (bt a0 a1)) + (wrap64 (256 * (wrap64 (bt a0 (ji10))))))) > 8192
                  · rw [if_pos c15] at H
                    have c15b0 : decide (8192 < (wrap64 ((wrap64 (bt a0 a1)) + (wrap64 (256 * (wrap64 (bt a0 (ji10)))))))) = true := decide_eq_true c15
                    (try (have c15b0w := c15b0; try (rw [show wrap64 (bt a0 a1) = (bt a0 a1) from by unfold wrap64; omega] at c15b0w); try (rw [show wrap64 (bt a0 (ji10)) = (bt a0 (ji10)) from by unfold wrap64; omega] at c15b0w); try (rw [show wrap64 (256 * (wrap64 (bt a0 (ji10)))) = (256 * (wrap64 (bt a0 (ji10)))) from by unfold wrap64; omega] at c15b0w); try (rw [show wrap64 ((wrap64 (bt a0 a1)) + (wrap64 (256 * (wrap64 (bt a0 (ji10)))))) = ((wrap64 (bt a0 a1)) + (wrap64 (256 * (wrap64 (bt a0 (ji10)))))) from by unfold wrap64; omega] at c15b0w)))
                    clear c15
                    (first | rw [c15b0] | (simp only [i64_w, i32_w]; rw [c15b0]) | skip)
                    have H' := Aside0.mk H
                    clear H
                    go_wp2
                    repeat (go_quiet (fail); try go_wp2)
                    go_meet
                    case rel => exact ⟨_, (true), (by first | rfl | (simp; done) | (simp [*]; done)), H', ⟨by have := HJ2.out; first | omega | exact Nat.le_refl _⟩, ⟨by repeat (first | (with_reducible first | exact HB.out | apply below_alloc | apply pw_below_drewN | apply below_drew1) | exact HB.out)⟩⟩
                  · rw [if_neg c15] at H
                    have c15b0 : decide (8192 < (wrap64 ((wrap64 (bt a0 a1)) + (wrap64 (256 * (wrap64 (bt a0 (ji10)))))))) = false := decide_eq_false c15
                    (try (have c15b0w := c15b0; try (rw [show wrap64 (bt a0 a1) = (bt a0 a1) from by unfold wrap64; omega] at c15b0w); try (rw [show wrap64 (bt a0 (ji10)) = (bt a0 (ji10)) from by unfold wrap64; omega] at c15b0w); try (rw [show wrap64 (256 * (wrap64 (bt a0 (ji10)))) = (256 * (wrap64 (bt a0 (ji10)))) from by unfold wrap64; omega] at c15b0w); try (rw [show wrap64 ((wrap64 (bt a0 a1)) + (wrap64 (256 * (wrap64 (bt a0 (ji10)))))) = ((wrap64 (bt a0 a1)) + (wrap64 (256 * (wrap64 (bt a0 (ji10)))))) from by unfold wrap64; omega] at c15b0w)))
                    clear c15
                    (first | rw [c15b0] | (simp only [i64_w, i32_w]; rw [c15b0]) | skip)
                    have H' := Aside0.mk H
                    clear H
                    go_wp2
                    repeat (go_quiet (fail); try go_wp2)
                    go_meet
                    case rel => exact ⟨_, (decide ((wrap64 ((a0.size : Int) - a1)) < (wrap64 (6 + (wrap64 ((wrap64 (bt a0 a1)) + (wrap64 (256 * (wrap64 (bt a0 (ji10))))))))))), (by first | rfl | (simp; done) | (simp only [← hji10] <;> (first | rfl | simp)) | (simp [*]; done)), H', ⟨by have := HJ2.out; first | omega | exact Nat.le_refl _⟩, ⟨by repeat (first | (with_reducible first | exact HB.out | apply below_alloc | apply pw_below_drewN | apply below_drew1) | exact HB.out)⟩⟩
                case rest =>
                  clear HC14
                  try clear c1
                  try clear p1
                  try clear q1
                  try clear hx1
                  try clear p2
                  try clear c4
                  try clear c4b0
                  try clear c5
                  try clear c5b0
                  try clear c6
                  try clear p6
                  try clear c7
                  try clear c7b0
                  try clear c8
                  try clear c8b0
                  try clear p9
                  try clear q9
                  try clear hx9
                  try clear c11
                  try clear c11b0
                  try clear c12
                  try clear c12b0
                  try clear p13
                  try clear q13
                  try clear hx13
                  try clear c15
                  try clear c15b0
                  try clear p13
                  try clear p2
                  try clear p9
                  try clear q13
                  try clear q9
                  obtain ⟨kq, x47_13, rfl, HA, HJ13, HB⟩ := hcut
                  cases kq with
                  | zero => exact absurd HA.out (by simp [sleuthref12_GetFrame.j1])
                  | succ kj13 =>
                    have H := HA.out
                    clear HA
                    simp only [sleuthref12_GetFrame.j1] at H
                    by_cases c16 : x47_13 = true
                    · subst c16
                      have H1 : (some ((⟨#[]⟩ : ByteArray), 0, 1600)) = some (r1, r2, r3) := by rw [if_pos rfl] at H; exact H
                      clear H
                      have H := H1
                      clear H1
                      simp only [Option.some.injEq, Prod.mk.injEq] at H
                      obtain ⟨rfl, rfl, rfl⟩ := H
                      go_wp2
                      repeat (go_quiet (fail); try go_wp2)
                      go_ret3
                      exact ⟨by first | rfl | (simp [errW_none, errW_some] <;> rfl) | (simp only [← hji10]; first | rfl | (simp [errW_none, errW_some] <;> rfl)) | (simp [*, errW_none, errW_some] <;> rfl), by repeat (first | (with_reducible first | exact HB.out | apply below_alloc | apply pw_below_drewN | apply below_drew1) | exact HB.out)⟩
                    · replace c16 := Bool.eq_false_iff.mpr c16
                      subst c16
                      have H1 : (if 0 ≤ (wrap64 (a1 + 2)) then (if (wrap64 (a1 + 2)) ≤ (wrap64 ((wrap64 (a1 + 2)) + (wrap64 ((wrap64 (bt a0 a1)) + (wrap64 (256 * (wrap64 (bt a0 (ji10))))))))) then (if (wrap64 ((wrap64 (a1 + 2)) + (wrap64 ((wrap64 (bt a0 a1)) + (wrap64 (256 * (wrap64 (bt a0 (ji10))))))))) ≤ (a0.size : Int) then ((sleuthref12_PutFrame.f kj13 (a0.extract ((wrap64 (a1 + 2)) : Int).toNat ((wrap64 ((wrap64 (a1 + 2)) + (wrap64 ((wrap64 (bt a0 a1)) + (wrap64 (256 * (wrap64 (bt a0 (ji10))))))))) : Int).toNat)).bind fun bt127 => (if 0 ≤ a1 then (if a1 ≤ (wrap64 ((wrap64 (a1 + 6)) + (wrap64 ((wrap64 (bt a0 a1)) + (wrap64 (256 * (wrap64 (bt a0 (ji10))))))))) then (if (wrap64 ((wrap64 (a1 + 6)) + (wrap64 ((wrap64 (bt a0 a1)) + (wrap64 (256 * (wrap64 (bt a0 (ji10))))))))) ≤ (a0.size : Int) then (if bt127.1.toList = (a0.extract (a1 : Int).toNat ((wrap64 ((wrap64 (a1 + 6)) + (wrap64 ((wrap64 (bt a0 a1)) + (wrap64 (256 * (wrap64 (bt a0 (ji10))))))))) : Int).toNat).toList then (some (a0.extract ((wrap64 (a1 + 2)) : Int).toNat ((wrap64 ((wrap64 (a1 + 2)) + (wrap64 ((wrap64 (bt a0 a1)) + (wrap64 (256 * (wrap64 (bt a0 (ji10))))))))) : Int).toNat, wrap64 ((wrap64 (a1 + 6)) + (wrap64 ((wrap64 (bt a0 a1)) + (wrap64 (256 * (wrap64 (bt a0 (ji10)))))))), 0)) else (some ((⟨#[]⟩ : ByteArray), 0, 1600))) else (none)) else (none)) else (none))) else (none)) else (none)) else (none)) = some (r1, r2, r3) := by rw [if_neg (show ¬ (false = true) by decide)] at H; exact H
                      clear H
                      have H := H1
                      clear H1
                      obtain ⟨ji17, hji17⟩ : ∃ j_ : Int, (wrap64 (a1 + 2)) = j_ := ⟨_, rfl⟩
                      replace H : (if 0 ≤ (ji17) then (if (ji17) ≤ (wrap64 ((ji17) + (wrap64 ((wrap64 (bt a0 a1)) + (wrap64 (256 * (wrap64 (bt a0 (ji10))))))))) then (if (wrap64 ((ji17) + (wrap64 ((wrap64 (bt a0 a1)) + (wrap64 (256 * (wrap64 (bt a0 (ji10))))))))) ≤ (a0.size : Int) then ((sleuthref12_PutFrame.f kj13 (a0.extract ((ji17) : Int).toNat ((wrap64 ((ji17) + (wrap64 ((wrap64 (bt a0 a1)) + (wrap64 (256 * (wrap64 (bt a0 (ji10))))))))) : Int).toNat)).bind fun bt127 => (if 0 ≤ a1 then (if a1 ≤ (wrap64 ((wrap64 (a1 + 6)) + (wrap64 ((wrap64 (bt a0 a1)) + (wrap64 (256 * (wrap64 (bt a0 (ji10))))))))) then (if (wrap64 ((wrap64 (a1 + 6)) + (wrap64 ((wrap64 (bt a0 a1)) + (wrap64 (256 * (wrap64 (bt a0 (ji10))))))))) ≤ (a0.size : Int) then (if bt127.1.toList = (a0.extract (a1 : Int).toNat ((wrap64 ((wrap64 (a1 + 6)) + (wrap64 ((wrap64 (bt a0 a1)) + (wrap64 (256 * (wrap64 (bt a0 (ji10))))))))) : Int).toNat).toList then (some (a0.extract ((ji17) : Int).toNat ((wrap64 ((ji17) + (wrap64 ((wrap64 (bt a0 a1)) + (wrap64 (256 * (wrap64 (bt a0 (ji10))))))))) : Int).toNat, wrap64 ((wrap64 (a1 + 6)) + (wrap64 ((wrap64 (bt a0 a1)) + (wrap64 (256 * (wrap64 (bt a0 (ji10)))))))), 0)) else (some ((⟨#[]⟩ : ByteArray), 0, 1600))) else (none)) else (none)) else (none))) else (none)) else (none)) else (none)) = some (r1, r2, r3) := by first | (rw [hji17] at H; exact H) | (simp only [hji17] at H ⊢; exact H)
                      have hji17w : (IntKind.i64.wrap (a1 + 2)) = ji17 := (i64_w _).trans hji17
                      by_cases c18 : 0 ≤ (ji17)
                      · rw [if_pos c18] at H
                        have c18b0 := eq_true c18
                        have c18b1 : decide (0 ≤ (ji17)) = true := decide_eq_true c18
                        clear c18
                        by_cases c19 : (ji17) ≤ (wrap64 ((ji17) + (wrap64 ((wrap64 (bt a0 a1)) + (wrap64 (256 * (wrap64 (bt a0 (ji10)))))))))
                        · rw [if_pos c19] at H
                          have c19b0 := eq_true c19
                          have c19b1 : decide ((ji17) ≤ (wrap64 ((ji17) + (wrap64 ((wrap64 (bt a0 a1)) + (wrap64 (256 * (wrap64 (bt a0 (ji10)))))))))) = true := decide_eq_true c19
                          by_cases c20 : (wrap64 ((ji17) + (wrap64 ((wrap64 (bt a0 a1)) + (wrap64 (256 * (wrap64 (bt a0 (ji10))))))))) ≤ (a0.size : Int)
                          · rw [if_pos c20] at H
                            have c20b0 := eq_true c20
                            have c20b1 : decide ((wrap64 ((ji17) + (wrap64 ((wrap64 (bt a0 a1)) + (wrap64 (256 * (wrap64 (bt a0 (ji10))))))))) ≤ (a0.size : Int)) = true := decide_eq_true c20
                            replace H := Option.bind_eq_some_iff.mp H
                            obtain ⟨⟨t127, t128⟩, A210, H⟩ := H
                            replace H : (if 0 ≤ a1 then (if a1 ≤ (wrap64 ((wrap64 (a1 + 6)) + (wrap64 ((wrap64 (bt a0 a1)) + (wrap64 (256 * (wrap64 (bt a0 (ji10))))))))) then (if (wrap64 ((wrap64 (a1 + 6)) + (wrap64 ((wrap64 (bt a0 a1)) + (wrap64 (256 * (wrap64 (bt a0 (ji10))))))))) ≤ (a0.size : Int) then (if t127.toList = (a0.extract (a1 : Int).toNat ((wrap64 ((wrap64 (a1 + 6)) + (wrap64 ((wrap64 (bt a0 a1)) + (wrap64 (256 * (wrap64 (bt a0 (ji10))))))))) : Int).toNat).toList then (some (a0.extract ((ji17) : Int).toNat ((wrap64 ((ji17) + (wrap64 ((wrap64 (bt a0 a1)) + (wrap64 (256 * (wrap64 (bt a0 (ji10))))))))) : Int).toNat, wrap64 ((wrap64 (a1 + 6)) + (wrap64 ((wrap64 (bt a0 a1)) + (wrap64 (256 * (wrap64 (bt a0 (ji10)))))))), 0)) else (some ((⟨#[]⟩ : ByteArray), 0, 1600))) else (none)) else (none)) else (none)) = some (r1, r2, r3) := H
                            have A21 := Aside0.mk A210
                            clear A210
                            by_cases c22 : 0 ≤ a1
                            · rw [if_pos c22] at H
                              have c22b0 := eq_true c22
                              have c22b1 : decide (0 ≤ a1) = true := decide_eq_true c22
                              clear c22
                              by_cases c23 : a1 ≤ (wrap64 ((wrap64 (a1 + 6)) + (wrap64 ((wrap64 (bt a0 a1)) + (wrap64 (256 * (wrap64 (bt a0 (ji10)))))))))
                              · rw [if_pos c23] at H
                                have c23b0 := eq_true c23
                                have c23b1 : decide (a1 ≤ (wrap64 ((wrap64 (a1 + 6)) + (wrap64 ((wrap64 (bt a0 a1)) + (wrap64 (256 * (wrap64 (bt a0 (ji10)))))))))) = true := decide_eq_true c23
                                by_cases c24 : (wrap64 ((wrap64 (a1 + 6)) + (wrap64 ((wrap64 (bt a0 a1)) + (wrap64 (256 * (wrap64 (bt a0 (ji10))))))))) ≤ (a0.size : Int)
                                · rw [if_pos c24] at H
                                  have c24b0 := eq_true c24
                                  have c24b1 : decide ((wrap64 ((wrap64 (a1 + 6)) + (wrap64 ((wrap64 (bt a0 a1)) + (wrap64 (256 * (wrap64 (bt a0 (ji10))))))))) ≤ (a0.size : Int)) = true := decide_eq_true c24
                                  by_cases c25 : t127.toList = (a0.extract (a1 : Int).toNat ((wrap64 ((wrap64 (a1 + 6)) + (wrap64 ((wrap64 (bt a0 a1)) + (wrap64 (256 * (wrap64 (bt a0 (ji10))))))))) : Int).toNat).toList
                                  · rw [if_pos c25] at H
                                    have c25b0 : (t127.toList == (a0.extract (a1 : Int).toNat ((wrap64 ((wrap64 (a1 + 6)) + (wrap64 ((wrap64 (bt a0 a1)) + (wrap64 (256 * (wrap64 (bt a0 (ji10))))))))) : Int).toNat).toList) = true := beq_iff_eq.mpr c25
                                    have c25b1 : (t127.toList != (a0.extract (a1 : Int).toNat ((wrap64 ((wrap64 (a1 + 6)) + (wrap64 ((wrap64 (bt a0 a1)) + (wrap64 (256 * (wrap64 (bt a0 (ji10))))))))) : Int).toNat).toList) = false := bne_eq_false_iff_eq.mpr c25
                                    (try (have c25b0w := c25b0; try (rw [show wrap64 (a1 + 6) = (a1 + 6) from by unfold wrap64; omega] at c25b0w); try (rw [show wrap64 (bt a0 a1) = (bt a0 a1) from by unfold wrap64; omega] at c25b0w); try (rw [show wrap64 (bt a0 (ji10)) = (bt a0 (ji10)) from by unfold wrap64; omega] at c25b0w); try (rw [show wrap64 (256 * (wrap64 (bt a0 (ji10)))) = (256 * (wrap64 (bt a0 (ji10)))) from by unfold wrap64; omega] at c25b0w); try (rw [show wrap64 ((wrap64 (bt a0 a1)) + (wrap64 (256 * (wrap64 (bt a0 (ji10)))))) = ((wrap64 (bt a0 a1)) + (wrap64 (256 * (wrap64 (bt a0 (ji10)))))) from by unfold wrap64; omega] at c25b0w); try (rw [show wrap64 ((wrap64 (a1 + 6)) + (wrap64 ((wrap64 (bt a0 a1)) + (wrap64 (256 * (wrap64 (bt a0 (ji10)))))))) = ((wrap64 (a1 + 6)) + (wrap64 ((wrap64 (bt a0 a1)) + (wrap64 (256 * (wrap64 (bt a0 (ji10)))))))) from by unfold wrap64; omega] at c25b0w)))
                                    (try (have c25b1w := c25b1; try (rw [show wrap64 (a1 + 6) = (a1 + 6) from by unfold wrap64; omega] at c25b1w); try (rw [show wrap64 (bt a0 a1) = (bt a0 a1) from by unfold wrap64; omega] at c25b1w); try (rw [show wrap64 (bt a0 (ji10)) = (bt a0 (ji10)) from by unfold wrap64; omega] at c25b1w); try (rw [show wrap64 (256 * (wrap64 (bt a0 (ji10)))) = (256 * (wrap64 (bt a0 (ji10)))) from by unfold wrap64; omega] at c25b1w); try (rw [show wrap64 ((wrap64 (bt a0 a1)) + (wrap64 (256 * (wrap64 (bt a0 (ji10)))))) = ((wrap64 (bt a0 a1)) + (wrap64 (256 * (wrap64 (bt a0 (ji10)))))) from by unfold wrap64; omega] at c25b1w); try (rw [show wrap64 ((wrap64 (a1 + 6)) + (wrap64 ((wrap64 (bt a0 a1)) + (wrap64 (256 * (wrap64 (bt a0 (ji10)))))))) = ((wrap64 (a1 + 6)) + (wrap64 ((wrap64 (bt a0 a1)) + (wrap64 (256 * (wrap64 (bt a0 (ji10)))))))) from by unfold wrap64; omega] at c25b1w)))
                                    clear c25
                                    simp only [Option.some.injEq, Prod.mk.injEq] at H
                                    obtain ⟨rfl, rfl, rfl⟩ := H
                                    go_wp2_with (first | (go_at_call 9; (with_reducible refine (sleuthref12_PutFrame.calls kj13 (a0.extract ((ji17) : Int).toNat ((wrap64 ((ji17) + (wrap64 ((wrap64 (bt a0 a1)) + (wrap64 (256 * (wrap64 (bt a0 (ji10))))))))) : Int).toNat) t127 t128 _ A21.out).mono ?_); rintro e w26 ⟨rfl, hb⟩; have n0_ := Aside0.mk (below_step (by repeat (first | (with_reducible first | exact HB.out | apply below_alloc | apply pw_below_drewN | apply below_drew1) | exact HB.out)) hb); clear HB; have HB := n0_; clear n0_; (try clear hb); (try clear hb2); (try clear hk); (try clear hi)))
                                    repeat (go_quiet (first | (go_at_call 9; (with_reducible refine (sleuthref12_PutFrame.calls kj13 (a0.extract ((ji17) : Int).toNat ((wrap64 ((ji17) + (wrap64 ((wrap64 (bt a0 a1)) + (wrap64 (256 * (wrap64 (bt a0 (ji10))))))))) : Int).toNat) t127 t128 _ A21.out).mono ?_); rintro e w26 ⟨rfl, hb⟩; have n0_ := Aside0.mk (below_step (by repeat (first | (with_reducible first | exact HB.out | apply below_alloc | apply pw_below_drewN | apply below_drew1) | exact HB.out)) hb); clear HB; have HB := n0_; clear n0_; (try clear hb); (try clear hb2); (try clear hk); (try clear hi))); try go_wp2_with (first | (go_at_call 9; (with_reducible refine (sleuthref12_PutFrame.calls kj13 (a0.extract ((ji17) : Int).toNat ((wrap64 ((ji17) + (wrap64 ((wrap64 (bt a0 a1)) + (wrap64 (256 * (wrap64 (bt a0 (ji10))))))))) : Int).toNat) t127 t128 _ A21.out).mono ?_); rintro e w26 ⟨rfl, hb⟩; have n0_ := Aside0.mk (below_step (by repeat (first | (with_reducible first | exact HB.out | apply below_alloc | apply pw_below_drewN | apply below_drew1) | exact HB.out)) hb); clear HB; have HB := n0_; clear n0_; (try clear hb); (try clear hb2); (try clear hk); (try clear hi))))
                                    go_ret3
                                    exact ⟨by first | rfl | (simp [errW_none, errW_some] <;> rfl) | (simp only [← hji10, ← hji17]; first | rfl | (simp [errW_none, errW_some] <;> rfl)) | (simp [*, errW_none, errW_some] <;> rfl), by repeat (first | (with_reducible first | exact HB.out | apply below_alloc | apply pw_below_drewN | apply below_drew1) | exact HB.out)⟩
                                  · rw [if_neg c25] at H
                                    have c25b0 : (t127.toList == (a0.extract (a1 : Int).toNat ((wrap64 ((wrap64 (a1 + 6)) + (wrap64 ((wrap64 (bt a0 a1)) + (wrap64 (256 * (wrap64 (bt a0 (ji10))))))))) : Int).toNat).toList) = false := beq_eq_false_iff_ne.mpr c25
                                    have c25b1 : (t127.toList != (a0.extract (a1 : Int).toNat ((wrap64 ((wrap64 (a1 + 6)) + (wrap64 ((wrap64 (bt a0 a1)) + (wrap64 (256 * (wrap64 (bt a0 (ji10))))))))) : Int).toNat).toList) = true := bne_iff_ne.mpr c25
                                    (try (have c25b0w := c25b0; try (rw [show wrap64 (a1 + 6) = (a1 + 6) from by unfold wrap64; omega] at c25b0w); try (rw [show wrap64 (bt a0 a1) = (bt a0 a1) from by unfold wrap64; omega] at c25b0w); try (rw [show wrap64 (bt a0 (ji10)) = (bt a0 (ji10)) from by unfold wrap64; omega] at c25b0w); try (rw [show wrap64 (256 * (wrap64 (bt a0 (ji10)))) = (256 * (wrap64 (bt a0 (ji10)))) from by unfold wrap64; omega] at c25b0w); try (rw [show wrap64 ((wrap64 (bt a0 a1)) + (wrap64 (256 * (wrap64 (bt a0 (ji10)))))) = ((wrap64 (bt a0 a1)) + (wrap64 (256 * (wrap64 (bt a0 (ji10)))))) from by unfold wrap64; omega] at c25b0w); try (rw [show wrap64 ((wrap64 (a1 + 6)) + (wrap64 ((wrap64 (bt a0 a1)) + (wrap64 (256 * (wrap64 (bt a0 (ji10)))))))) = ((wrap64 (a1 + 6)) + (wrap64 ((wrap64 (bt a0 a1)) + (wrap64 (256 * (wrap64 (bt a0 (ji10)))))))) from by unfold wrap64; omega] at c25b0w)))
                                    (try (have c25b1w := c25b1; try (rw [show wrap64 (a1 + 6) = (a1 + 6) from by unfold wrap64; omega] at c25b1w); try (rw [show wrap64 (bt a0 a1) = (bt a0 a1) from by unfold wrap64; omega] at c25b1w); try (rw [show wrap64 (bt a0 (ji10)) = (bt a0 (ji10)) from by unfold wrap64; omega] at c25b1w); try (rw [show wrap64 (256 * (wrap64 (bt a0 (ji10)))) = (256 * (wrap64 (bt a0 (ji10)))) from by unfold wrap64; omega] at c25b1w); try (rw [show wrap64 ((wrap64 (bt a0 a1)) + (wrap64 (256 * (wrap64 (bt a0 (ji10)))))) = ((wrap64 (bt a0 a1)) + (wrap64 (256 * (wrap64 (bt a0 (ji10)))))) from by unfold wrap64; omega] at c25b1w); try (rw [show wrap64 ((wrap64 (a1 + 6)) + (wrap64 ((wrap64 (bt a0 a1)) + (wrap64 (256 * (wrap64 (bt a0 (ji10)))))))) = ((wrap64 (a1 + 6)) + (wrap64 ((wrap64 (bt a0 a1)) + (wrap64 (256 * (wrap64 (bt a0 (ji10)))))))) from by unfold wrap64; omega] at c25b1w)))
                                    simp only [Option.some.injEq, Prod.mk.injEq] at H
                                    obtain ⟨rfl, rfl, rfl⟩ := H
                                    go_wp2_with (first | (go_at_call 9; (with_reducible refine (sleuthref12_PutFrame.calls kj13 (a0.extract ((ji17) : Int).toNat ((wrap64 ((ji17) + (wrap64 ((wrap64 (bt a0 a1)) + (wrap64 (256 * (wrap64 (bt a0 (ji10))))))))) : Int).toNat) t127 t128 _ A21.out).mono ?_); rintro e w27 ⟨rfl, hb⟩; have n0_ := Aside0.mk (below_step (by repeat (first | (with_reducible first | exact HB.out | apply below_alloc | apply pw_below_drewN | apply below_drew1) | exact HB.out)) hb); clear HB; have HB := n0_; clear n0_; (try clear hb); (try clear hb2); (try clear hk); (try clear hi)))
                                    repeat (go_quiet (first | (go_at_call 9; (with_reducible refine (sleuthref12_PutFrame.calls kj13 (a0.extract ((ji17) : Int).toNat ((wrap64 ((ji17) + (wrap64 ((wrap64 (bt a0 a1)) + (wrap64 (256 * (wrap64 (bt a0 (ji10))))))))) : Int).toNat) t127 t128 _ A21.out).mono ?_); rintro e w27 ⟨rfl, hb⟩; have n0_ := Aside0.mk (below_step (by repeat (first | (with_reducible first | exact HB.out | apply below_alloc | apply pw_below_drewN | apply below_drew1) | exact HB.out)) hb); clear HB; have HB := n0_; clear n0_; (try clear hb); (try clear hb2); (try clear hk); (try clear hi))); try go_wp2_with (first | (go_at_call 9; (with_reducible refine (sleuthref12_PutFrame.calls kj13 (a0.extract ((ji17) : Int).toNat ((wrap64 ((ji17) + (wrap64 ((wrap64 (bt a0 a1)) + (wrap64 (256 * (wrap64 (bt a0 (ji10))))))))) : Int).toNat) t127 t128 _ A21.out).mono ?_); rintro e w27 ⟨rfl, hb⟩; have n0_ := Aside0.mk (below_step (by repeat (first | (with_reducible first | exact HB.out | apply below_alloc | apply pw_below_drewN | apply below_drew1) | exact HB.out)) hb); clear HB; have HB := n0_; clear n0_; (try clear hb); (try clear hb2); (try clear hk); (try clear hi))))
                                    go_ret3
                                    exact ⟨by first | rfl | (simp [errW_none, errW_some] <;> rfl) | (simp only [← hji10, ← hji17]; first | rfl | (simp [errW_none, errW_some] <;> rfl)) | (simp [*, errW_none, errW_some] <;> rfl), by repeat (first | (with_reducible first | exact HB.out | apply below_alloc | apply pw_below_drewN | apply below_drew1) | exact HB.out)⟩
                                · rw [if_neg c24] at H
                                  exact absurd H (by simp)
                              · rw [if_neg c23] at H
                                exact absurd H (by simp)
                            · rw [if_neg c22] at H
                              exact absurd H (by simp)
                          · rw [if_neg c20] at H
                            exact absurd H (by simp)
                        · rw [if_neg c19] at H
                          exact absurd H (by simp)
                      · rw [if_neg c18] at H
                        exact absurd H (by simp)
              · rw [if_neg c12] at H
                exact absurd H (by simp)
            · rw [if_neg c11] at H
              exact absurd H (by simp)
          · rw [if_neg c8] at H
            exact absurd H (by simp)
        · rw [if_neg c7] at H
          exact absurd H (by simp)

end Go.Proofs.Yteaaaldfccildaa.G
