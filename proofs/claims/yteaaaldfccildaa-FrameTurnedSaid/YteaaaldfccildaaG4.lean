-- Laid by the session's own driver gp.py over the kit's printer. Not trusted: Lean checks it.
import Derived.Test.YteaaaldfccildaaG0
import Derived.Test.YteaaaldfccildaaG2
namespace Go.Proofs.Yteaaaldfccildaa.G
open Go.RowKit Go.Proofs.YteaaaldfccildaaW.PrintWords Go.Proofs.YteaaaldfccildaaW.PrintLast Go.Proofs.YteaaaldfccildaaW.PrintMore
attribute [local go_sem] max2_int min2_int max_two min_two max_three min_three max_four min_four   -- for this text's walks alone
set_option linter.unusedVariables false
set_option linter.unusedSimpArgs false

/-! ### frame_Get: function 10 -/
def frame_Get.j0 : Nat → ByteArray → Int → Bool → Option (ByteArray × Int × Int)
  | 0, _, _, _ => none
  | k + 1, x0, x1, x26 => if x26 = true then (some ((⟨#[]⟩ : ByteArray), 0, 1600)) else (if 0 ≤ x1 then (if x1 < (x0.size : Int) then (if 0 ≤ (wrap64 (x1 + 1)) then (if (wrap64 (x1 + 1)) < (x0.size : Int) then (if (wrap64 ((wrap64 (bt x0 x1)) + (wrap64 (256 * (wrap64 (bt x0 (wrap64 (x1 + 1)))))))) > (wrap64 ((wrap64 ((wrap64 ((x0.size : Int) - x1)) - 2)) - 4)) then (some ((⟨#[]⟩ : ByteArray), 0, 1600)) else (if 0 ≤ (wrap64 (x1 + 2)) then (if (wrap64 (x1 + 2)) ≤ (wrap64 ((wrap64 (x1 + 2)) + (wrap64 ((wrap64 (bt x0 x1)) + (wrap64 (256 * (wrap64 (bt x0 (wrap64 (x1 + 1)))))))))) then (if (wrap64 ((wrap64 (x1 + 2)) + (wrap64 ((wrap64 (bt x0 x1)) + (wrap64 (256 * (wrap64 (bt x0 (wrap64 (x1 + 1)))))))))) ≤ (x0.size : Int) then ((frame_Put.f k (x0.extract ((wrap64 (x1 + 2)) : Int).toNat ((wrap64 ((wrap64 (x1 + 2)) + (wrap64 ((wrap64 (bt x0 x1)) + (wrap64 (256 * (wrap64 (bt x0 (wrap64 (x1 + 1)))))))))) : Int).toNat)).bind fun bt125 => (if bt125.2 = 0 then (if x1 ≤ (wrap64 ((wrap64 ((wrap64 (x1 + 2)) + (wrap64 ((wrap64 (bt x0 x1)) + (wrap64 (256 * (wrap64 (bt x0 (wrap64 (x1 + 1)))))))))) + 4)) then (if (wrap64 ((wrap64 ((wrap64 (x1 + 2)) + (wrap64 ((wrap64 (bt x0 x1)) + (wrap64 (256 * (wrap64 (bt x0 (wrap64 (x1 + 1)))))))))) + 4)) ≤ (x0.size : Int) then (if bt125.1.toList = (x0.extract (x1 : Int).toNat ((wrap64 ((wrap64 ((wrap64 (x1 + 2)) + (wrap64 ((wrap64 (bt x0 x1)) + (wrap64 (256 * (wrap64 (bt x0 (wrap64 (x1 + 1)))))))))) + 4)) : Int).toNat).toList then (some (x0.extract ((wrap64 (x1 + 2)) : Int).toNat ((wrap64 ((wrap64 (x1 + 2)) + (wrap64 ((wrap64 (bt x0 x1)) + (wrap64 (256 * (wrap64 (bt x0 (wrap64 (x1 + 1)))))))))) : Int).toNat, wrap64 ((wrap64 ((wrap64 (x1 + 2)) + (wrap64 ((wrap64 (bt x0 x1)) + (wrap64 (256 * (wrap64 (bt x0 (wrap64 (x1 + 1)))))))))) + 4), 0)) else (some ((⟨#[]⟩ : ByteArray), 0, 1600))) else (none)) else (none)) else (some ((⟨#[]⟩ : ByteArray), 0, 1600)))) else (none)) else (none)) else (none))) else (none)) else (none)) else (none)) else (none))
def frame_Get.f (k : Nat) (a0 : ByteArray) (a1 : Int) : Option (ByteArray × Int × Int) := if a1 < 0 then (frame_Get.j0 k a0 a1 true) else (if a1 > (a0.size : Int) then (frame_Get.j0 k a0 a1 true) else (frame_Get.j0 k a0 a1 (decide ((wrap64 ((a0.size : Int) - a1)) < 6))))
theorem frame_Get.mono_l : ∀ k, (∀ y0 y1 y2, LeO (frame_Get.j0 k y0 y1 y2) (frame_Get.j0 (k + 1) y0 y1 y2))
  | 0 => fun _ _ _ r h => by simp [frame_Get.j0] at h
  | k + 1 => by
    have ih0 := frame_Get.mono_l k
    · intro y0 y1 y2
      unfold frame_Get.j0
      repeat' first
      | (with_reducible exact ih0 _ _ _)
      | (with_reducible exact frame_Put.mono _ _)
      | (with_reducible exact LeO.refl _)
      | (with_reducible exact LeO.none _)
      | (with_reducible refine LeO.ite ?_ ?_)
      | (with_reducible refine LeO.bind ?_ (fun _ => ?_))
      | exact ih0 _ _ _
      | exact frame_Put.mono _ _
      | exact LeO.none _
      | refine LeO.ite ?_ ?_
      | refine LeO.bind ?_ (fun _ => ?_)
theorem frame_Get.mono : ∀ a0 a1 k, LeO (frame_Get.f k a0 a1) (frame_Get.f (k + 1) a0 a1) := by
  intro a0 a1 k
  have ih0 := frame_Get.mono_l k
  unfold frame_Get.f
  repeat' first
      | (with_reducible exact ih0 _ _ _)
      | (with_reducible exact frame_Put.mono _ _)
      | (with_reducible exact LeO.refl _)
      | (with_reducible exact LeO.none _)
      | (with_reducible refine LeO.ite ?_ ?_)
      | (with_reducible refine LeO.bind ?_ (fun _ => ?_))
      | exact ih0 _ _ _
      | exact frame_Put.mono _ _
      | exact LeO.none _
      | refine LeO.ite ?_ ?_
      | refine LeO.bind ?_ (fun _ => ?_)
set_option maxHeartbeats 8000000 in
set_option maxRecDepth 100000 in
theorem frame_Get.calls (k : Nat) (a0 : ByteArray) (a1 : Int) (r1 : ByteArray) (r2 : Int) (r3 : Int) (w : World) (h : frame_Get.f k a0 a1 = some (r1, r2, r3)) :
    Calls Try.prog 10 #[.string a0, .int .i64 a1] w fun e w' => e = .returned (.tuple #[.string r1, .int .i64 r2, .int .i64 r3]) ∧ Below w.heap.size w w' := by
  have HB := Aside0.mk (Below.refl w.heap.size w)
  have H : (if a1 < 0 then (frame_Get.j0 k a0 a1 true) else (if a1 > (a0.size : Int) then (frame_Get.j0 k a0 a1 true) else (frame_Get.j0 k a0 a1 (decide ((wrap64 ((a0.size : Int) - a1)) < 6))))) = some (r1, r2, r3) := h
  clear h
  have HC3 := Aside0.mk H
  clear H
  go_enter Try.func10, Try.ntmps10
  go_upto_region 1 with (fail)
  repeat (go_quiet (fail); go_upto_region 1 with (fail))
  go_cut [26] (fun v26 wc => ∃ (kq : Nat) (x26_2 : Bool), v26 = .bool x26_2 ∧ Aside0 (frame_Get.j0 kq a0 a1 x26_2 = some (r1, r2, r3)) ∧ Aside0 (kq ≤ k) ∧ Aside0 (Below w.heap.size w wc))
  case first =>
    have H := HC3.out
    clear HC3
    by_cases c4 : a1 < 0
    · rw [if_pos c4] at H
      have c4b0 : decide (a1 < 0) = true := decide_eq_true c4
      clear c4
      (first | rw [c4b0] | (simp only [i64_w, i32_w]; rw [c4b0]) | skip)
      have H' := Aside0.mk H
      clear H
      go_wp2
      repeat (go_quiet (fail); try go_wp2)
      go_meet
      case rel => exact ⟨_, (true), (by first | rfl | (simp; done) | (simp [*]; done)), H', ⟨by first | omega | exact Nat.le_refl _⟩, ⟨by repeat (first | (with_reducible first | exact HB.out | apply below_alloc | apply pw_below_drewN | apply below_drew1) | exact HB.out)⟩⟩
    · rw [if_neg c4] at H
      have c4b0 : decide (a1 < 0) = false := decide_eq_false c4
      clear c4
      (first | rw [c4b0] | (simp only [i64_w, i32_w]; rw [c4b0]) | skip)
      by_cases c5 : a1 > (a0.size : Int)
      · rw [if_pos c5] at H
        have c5b0 : decide ((a0.size : Int) < a1) = true := decide_eq_true c5
        clear c5
        have H' := Aside0.mk H
        clear H
        go_wp2
        repeat (go_quiet (fail); try go_wp2)
        go_meet
        case rel => exact ⟨_, (true), (by first | rfl | (simp; done) | (simp [*]; done)), H', ⟨by first | omega | exact Nat.le_refl _⟩, ⟨by repeat (first | (with_reducible first | exact HB.out | apply below_alloc | apply pw_below_drewN | apply below_drew1) | exact HB.out)⟩⟩
      · rw [if_neg c5] at H
        have c5b0 : decide ((a0.size : Int) < a1) = false := decide_eq_false c5
        clear c5
        have H' := Aside0.mk H
        clear H
        go_wp2
        repeat (go_quiet (fail); try go_wp2)
        go_meet
        case rel => exact ⟨_, (decide ((wrap64 ((a0.size : Int) - a1)) < 6)), (by first | rfl | (simp; done) | (simp [*]; done)), H', ⟨by first | omega | exact Nat.le_refl _⟩, ⟨by repeat (first | (with_reducible first | exact HB.out | apply below_alloc | apply pw_below_drewN | apply below_drew1) | exact HB.out)⟩⟩
  case rest =>
    clear HC3
    try clear c1
    try clear p2
    try clear c4
    try clear c4b0
    try clear c5
    try clear c5b0
    obtain ⟨kq, x26_2, rfl, HA, HJ2, HB⟩ := hcut
    cases kq with
    | zero => exact absurd HA.out (by simp [frame_Get.j0])
    | succ kj2 =>
      have H := HA.out
      clear HA
      simp only [frame_Get.j0] at H
      by_cases c6 : x26_2 = true
      · subst c6
        have H1 : (some ((⟨#[]⟩ : ByteArray), 0, 1600)) = some (r1, r2, r3) := by rw [if_pos rfl] at H; exact H
        clear H
        have H := H1
        clear H1
        simp only [Option.some.injEq, Prod.mk.injEq] at H
        obtain ⟨rfl, rfl, rfl⟩ := H
        go_wp2
        repeat (go_quiet (fail); try go_wp2)
        go_ret3
        exact ⟨by first | rfl | (simp [errW_none, errW_some] <;> rfl) | (simp [*, errW_none, errW_some] <;> rfl), by repeat (first | (with_reducible first | exact HB.out | apply below_alloc | apply pw_below_drewN | apply below_drew1) | exact HB.out)⟩
      · replace c6 := Bool.eq_false_iff.mpr c6
        subst c6
        have H1 : (if 0 ≤ a1 then (if a1 < (a0.size : Int) then (if 0 ≤ (wrap64 (a1 + 1)) then (if (wrap64 (a1 + 1)) < (a0.size : Int) then (if (wrap64 ((wrap64 (bt a0 a1)) + (wrap64 (256 * (wrap64 (bt a0 (wrap64 (a1 + 1)))))))) > (wrap64 ((wrap64 ((wrap64 ((a0.size : Int) - a1)) - 2)) - 4)) then (some ((⟨#[]⟩ : ByteArray), 0, 1600)) else (if 0 ≤ (wrap64 (a1 + 2)) then (if (wrap64 (a1 + 2)) ≤ (wrap64 ((wrap64 (a1 + 2)) + (wrap64 ((wrap64 (bt a0 a1)) + (wrap64 (256 * (wrap64 (bt a0 (wrap64 (a1 + 1)))))))))) then (if (wrap64 ((wrap64 (a1 + 2)) + (wrap64 ((wrap64 (bt a0 a1)) + (wrap64 (256 * (wrap64 (bt a0 (wrap64 (a1 + 1)))))))))) ≤ (a0.size : Int) then ((frame_Put.f kj2 (a0.extract ((wrap64 (a1 + 2)) : Int).toNat ((wrap64 ((wrap64 (a1 + 2)) + (wrap64 ((wrap64 (bt a0 a1)) + (wrap64 (256 * (wrap64 (bt a0 (wrap64 (a1 + 1)))))))))) : Int).toNat)).bind fun bt125 => (if bt125.2 = 0 then (if a1 ≤ (wrap64 ((wrap64 ((wrap64 (a1 + 2)) + (wrap64 ((wrap64 (bt a0 a1)) + (wrap64 (256 * (wrap64 (bt a0 (wrap64 (a1 + 1)))))))))) + 4)) then (if (wrap64 ((wrap64 ((wrap64 (a1 + 2)) + (wrap64 ((wrap64 (bt a0 a1)) + (wrap64 (256 * (wrap64 (bt a0 (wrap64 (a1 + 1)))))))))) + 4)) ≤ (a0.size : Int) then (if bt125.1.toList = (a0.extract (a1 : Int).toNat ((wrap64 ((wrap64 ((wrap64 (a1 + 2)) + (wrap64 ((wrap64 (bt a0 a1)) + (wrap64 (256 * (wrap64 (bt a0 (wrap64 (a1 + 1)))))))))) + 4)) : Int).toNat).toList then (some (a0.extract ((wrap64 (a1 + 2)) : Int).toNat ((wrap64 ((wrap64 (a1 + 2)) + (wrap64 ((wrap64 (bt a0 a1)) + (wrap64 (256 * (wrap64 (bt a0 (wrap64 (a1 + 1)))))))))) : Int).toNat, wrap64 ((wrap64 ((wrap64 (a1 + 2)) + (wrap64 ((wrap64 (bt a0 a1)) + (wrap64 (256 * (wrap64 (bt a0 (wrap64 (a1 + 1)))))))))) + 4), 0)) else (some ((⟨#[]⟩ : ByteArray), 0, 1600))) else (none)) else (none)) else (some ((⟨#[]⟩ : ByteArray), 0, 1600)))) else (none)) else (none)) else (none))) else (none)) else (none)) else (none)) else (none)) = some (r1, r2, r3) := by rw [if_neg (show ¬ (false = true) by decide)] at H; exact H
        clear H
        have H := H1
        clear H1
        by_cases c7 : 0 ≤ a1
        · rw [if_pos c7] at H
          have c7b0 : decide (0 ≤ a1) = true := decide_eq_true c7
          clear c7
          by_cases c8 : a1 < (a0.size : Int)
          · rw [if_pos c8] at H
            have c8b0 : decide (a1 < (a0.size : Int)) = true := decide_eq_true c8
            clear c8
            obtain ⟨ji10, hji10⟩ : ∃ j_ : Int, (wrap64 (a1 + 1)) = j_ := ⟨_, rfl⟩
            replace H : (if 0 ≤ (ji10) then (if (ji10) < (a0.size : Int) then (if (wrap64 ((wrap64 (bt a0 a1)) + (wrap64 (256 * (wrap64 (bt a0 (ji10))))))) > (wrap64 ((wrap64 ((wrap64 ((a0.size : Int) - a1)) - 2)) - 4)) then (some ((⟨#[]⟩ : ByteArray), 0, 1600)) else (if 0 ≤ (wrap64 (a1 + 2)) then (if (wrap64 (a1 + 2)) ≤ (wrap64 ((wrap64 (a1 + 2)) + (wrap64 ((wrap64 (bt a0 a1)) + (wrap64 (256 * (wrap64 (bt a0 (ji10))))))))) then (if (wrap64 ((wrap64 (a1 + 2)) + (wrap64 ((wrap64 (bt a0 a1)) + (wrap64 (256 * (wrap64 (bt a0 (ji10))))))))) ≤ (a0.size : Int) then ((frame_Put.f kj2 (a0.extract ((wrap64 (a1 + 2)) : Int).toNat ((wrap64 ((wrap64 (a1 + 2)) + (wrap64 ((wrap64 (bt a0 a1)) + (wrap64 (256 * (wrap64 (bt a0 (ji10))))))))) : Int).toNat)).bind fun bt125 => (if bt125.2 = 0 then (if a1 ≤ (wrap64 ((wrap64 ((wrap64 (a1 + 2)) + (wrap64 ((wrap64 (bt a0 a1)) + (wrap64 (256 * (wrap64 (bt a0 (ji10))))))))) + 4)) then (if (wrap64 ((wrap64 ((wrap64 (a1 + 2)) + (wrap64 ((wrap64 (bt a0 a1)) + (wrap64 (256 * (wrap64 (bt a0 (ji10))))))))) + 4)) ≤ (a0.size : Int) then (if bt125.1.toList = (a0.extract (a1 : Int).toNat ((wrap64 ((wrap64 ((wrap64 (a1 + 2)) + (wrap64 ((wrap64 (bt a0 a1)) + (wrap64 (256 * (wrap64 (bt a0 (ji10))))))))) + 4)) : Int).toNat).toList then (some (a0.extract ((wrap64 (a1 + 2)) : Int).toNat ((wrap64 ((wrap64 (a1 + 2)) + (wrap64 ((wrap64 (bt a0 a1)) + (wrap64 (256 * (wrap64 (bt a0 (ji10))))))))) : Int).toNat, wrap64 ((wrap64 ((wrap64 (a1 + 2)) + (wrap64 ((wrap64 (bt a0 a1)) + (wrap64 (256 * (wrap64 (bt a0 (ji10))))))))) + 4), 0)) else (some ((⟨#[]⟩ : ByteArray), 0, 1600))) else (none)) else (none)) else (some ((⟨#[]⟩ : ByteArray), 0, 1600)))) else (none)) else (none)) else (none))) else (none)) else (none)) = some (r1, r2, r3) := by first | (rw [hji10] at H; exact H) | (simp only [hji10] at H ⊢; exact H)
            have hji10w : (IntKind.i64.wrap (a1 + 1)) = ji10 := (i64_w _).trans hji10
            by_cases c11 : 0 ≤ (ji10)
            · rw [if_pos c11] at H
              have c11b0 : decide (0 ≤ (ji10)) = true := decide_eq_true c11
              clear c11
              by_cases c12 : (ji10) < (a0.size : Int)
              · rw [if_pos c12] at H
                have c12b0 : decide ((ji10) < (a0.size : Int)) = true := decide_eq_true c12
                clear c12
                by_cases c14 : (wrap64 ((wrap64 (bt a0 a1)) + (wrap64 (256 * (wrap64 (bt a0 (ji10))))))) > (wrap64 ((wrap64 ((wrap64 ((a0.size : Int) - a1)) - 2)) - 4))
                · rw [if_pos c14] at H
                  have c14b0 : decide ((wrap64 ((wrap64 ((wrap64 ((a0.size : Int) - a1)) - 2)) - 4)) < (wrap64 ((wrap64 (bt a0 a1)) + (wrap64 (256 * (wrap64 (bt a0 (ji10)))))))) = true := decide_eq_true c14
                  clear c14
                  simp only [Option.some.injEq, Prod.mk.injEq] at H
                  obtain ⟨rfl, rfl, rfl⟩ := H
                  have p9 : 0 ≤ (a1 : Int) := of_decide_eq_true (by first | (with_reducible assumption) | assumption)
                  have q9 : a1 < (a0.size : Int) := of_decide_eq_true (by first | (with_reducible assumption) | assumption)
                  have hx9 := bt_at a0 a1
                  replace p9 := eq_true p9
                  replace q9 := eq_true q9
                  have p13 : 0 ≤ ((ji10) : Int) := of_decide_eq_true (by first | (with_reducible assumption) | assumption)
                  have q13 : (ji10) < (a0.size : Int) := of_decide_eq_true (by first | (with_reducible assumption) | assumption)
                  have hx13 := bt_at a0 (ji10)
                  replace p13 := eq_true p13
                  replace q13 := eq_true q13
                  go_wp2
                  repeat (go_quiet (fail); try go_wp2)
                  go_ret3
                  exact ⟨by first | rfl | (simp [errW_none, errW_some] <;> rfl) | (simp only [← hji10]; first | rfl | (simp [errW_none, errW_some] <;> rfl)) | (simp [*, errW_none, errW_some] <;> rfl), by repeat (first | (with_reducible first | exact HB.out | apply below_alloc | apply pw_below_drewN | apply below_drew1) | exact HB.out)⟩
                · rw [if_neg c14] at H
                  have c14b0 : decide ((wrap64 ((wrap64 ((wrap64 ((a0.size : Int) - a1)) - 2)) - 4)) < (wrap64 ((wrap64 (bt a0 a1)) + (wrap64 (256 * (wrap64 (bt a0 (ji10)))))))) = false := decide_eq_false c14
                  clear c14
                  obtain ⟨ji15, hji15⟩ : ∃ j_ : Int, (wrap64 (a1 + 2)) = j_ := ⟨_, rfl⟩
                  replace H : (if 0 ≤ (ji15) then (if (ji15) ≤ (wrap64 ((ji15) + (wrap64 ((wrap64 (bt a0 a1)) + (wrap64 (256 * (wrap64 (bt a0 (ji10))))))))) then (if (wrap64 ((ji15) + (wrap64 ((wrap64 (bt a0 a1)) + (wrap64 (256 * (wrap64 (bt a0 (ji10))))))))) ≤ (a0.size : Int) then ((frame_Put.f kj2 (a0.extract ((ji15) : Int).toNat ((wrap64 ((ji15) + (wrap64 ((wrap64 (bt a0 a1)) + (wrap64 (256 * (wrap64 (bt a0 (ji10))))))))) : Int).toNat)).bind fun bt125 => (if bt125.2 = 0 then (if a1 ≤ (wrap64 ((wrap64 ((ji15) + (wrap64 ((wrap64 (bt a0 a1)) + (wrap64 (256 * (wrap64 (bt a0 (ji10))))))))) + 4)) then (if (wrap64 ((wrap64 ((ji15) + (wrap64 ((wrap64 (bt a0 a1)) + (wrap64 (256 * (wrap64 (bt a0 (ji10))))))))) + 4)) ≤ (a0.size : Int) then (if bt125.1.toList = (a0.extract (a1 : Int).toNat ((wrap64 ((wrap64 ((ji15) + (wrap64 ((wrap64 (bt a0 a1)) + (wrap64 (256 * (wrap64 (bt a0 (ji10))))))))) + 4)) : Int).toNat).toList then (some (a0.extract ((ji15) : Int).toNat ((wrap64 ((ji15) + (wrap64 ((wrap64 (bt a0 a1)) + (wrap64 (256 * (wrap64 (bt a0 (ji10))))))))) : Int).toNat, wrap64 ((wrap64 ((ji15) + (wrap64 ((wrap64 (bt a0 a1)) + (wrap64 (256 * (wrap64 (bt a0 (ji10))))))))) + 4), 0)) else (some ((⟨#[]⟩ : ByteArray), 0, 1600))) else (none)) else (none)) else (some ((⟨#[]⟩ : ByteArray), 0, 1600)))) else (none)) else (none)) else (none)) = some (r1, r2, r3) := by first | (rw [hji15] at H; exact H) | (simp only [hji15] at H ⊢; exact H)
                  have hji15w : (IntKind.i64.wrap (a1 + 2)) = ji15 := (i64_w _).trans hji15
                  by_cases c16 : 0 ≤ (ji15)
                  · rw [if_pos c16] at H
                    have c16b0 := eq_true c16
                    have c16b1 : decide (0 ≤ (ji15)) = true := decide_eq_true c16
                    clear c16
                    by_cases c17 : (ji15) ≤ (wrap64 ((ji15) + (wrap64 ((wrap64 (bt a0 a1)) + (wrap64 (256 * (wrap64 (bt a0 (ji10)))))))))
                    · rw [if_pos c17] at H
                      have c17b0 := eq_true c17
                      have c17b1 : decide ((ji15) ≤ (wrap64 ((ji15) + (wrap64 ((wrap64 (bt a0 a1)) + (wrap64 (256 * (wrap64 (bt a0 (ji10)))))))))) = true := decide_eq_true c17
                      by_cases c18 : (wrap64 ((ji15) + (wrap64 ((wrap64 (bt a0 a1)) + (wrap64 (256 * (wrap64 (bt a0 (ji10))))))))) ≤ (a0.size : Int)
                      · rw [if_pos c18] at H
                        have c18b0 := eq_true c18
                        have c18b1 : decide ((wrap64 ((ji15) + (wrap64 ((wrap64 (bt a0 a1)) + (wrap64 (256 * (wrap64 (bt a0 (ji10))))))))) ≤ (a0.size : Int)) = true := decide_eq_true c18
                        replace H := Option.bind_eq_some_iff.mp H
                        obtain ⟨⟨t125, t126⟩, A190, H⟩ := H
                        replace H : (if t126 = 0 then (if a1 ≤ (wrap64 ((wrap64 ((ji15) + (wrap64 ((wrap64 (bt a0 a1)) + (wrap64 (256 * (wrap64 (bt a0 (ji10))))))))) + 4)) then (if (wrap64 ((wrap64 ((ji15) + (wrap64 ((wrap64 (bt a0 a1)) + (wrap64 (256 * (wrap64 (bt a0 (ji10))))))))) + 4)) ≤ (a0.size : Int) then (if t125.toList = (a0.extract (a1 : Int).toNat ((wrap64 ((wrap64 ((ji15) + (wrap64 ((wrap64 (bt a0 a1)) + (wrap64 (256 * (wrap64 (bt a0 (ji10))))))))) + 4)) : Int).toNat).toList then (some (a0.extract ((ji15) : Int).toNat ((wrap64 ((ji15) + (wrap64 ((wrap64 (bt a0 a1)) + (wrap64 (256 * (wrap64 (bt a0 (ji10))))))))) : Int).toNat, wrap64 ((wrap64 ((ji15) + (wrap64 ((wrap64 (bt a0 a1)) + (wrap64 (256 * (wrap64 (bt a0 (ji10))))))))) + 4), 0)) else (some ((⟨#[]⟩ : ByteArray), 0, 1600))) else (none)) else (none)) else (some ((⟨#[]⟩ : ByteArray), 0, 1600))) = some (r1, r2, r3) := H
                        have A19 := Aside0.mk A190
                        clear A190
                        by_cases c20 : t126 = 0
                        · rw [if_pos c20] at H
                          have c20b0 : (t126 == 0) = true := beq_iff_eq.mpr c20
                          have c20b1 : (t126 != 0) = false := bne_eq_false_iff_eq.mpr c20
                          clear c20
                          have c21b0 := eq_true (of_decide_eq_true (by first | (with_reducible assumption) | assumption) : 0 ≤ a1)
                          by_cases c22 : a1 ≤ (wrap64 ((wrap64 ((ji15) + (wrap64 ((wrap64 (bt a0 a1)) + (wrap64 (256 * (wrap64 (bt a0 (ji10))))))))) + 4))
                          · rw [if_pos c22] at H
                            have c22b0 := eq_true c22
                            have c22b1 : decide (a1 ≤ (wrap64 ((wrap64 ((ji15) + (wrap64 ((wrap64 (bt a0 a1)) + (wrap64 (256 * (wrap64 (bt a0 (ji10))))))))) + 4))) = true := decide_eq_true c22
                            by_cases c23 : (wrap64 ((wrap64 ((ji15) + (wrap64 ((wrap64 (bt a0 a1)) + (wrap64 (256 * (wrap64 (bt a0 (ji10))))))))) + 4)) ≤ (a0.size : Int)
                            · rw [if_pos c23] at H
                              have c23b0 := eq_true c23
                              have c23b1 : decide ((wrap64 ((wrap64 ((ji15) + (wrap64 ((wrap64 (bt a0 a1)) + (wrap64 (256 * (wrap64 (bt a0 (ji10))))))))) + 4)) ≤ (a0.size : Int)) = true := decide_eq_true c23
                              by_cases c24 : t125.toList = (a0.extract (a1 : Int).toNat ((wrap64 ((wrap64 ((ji15) + (wrap64 ((wrap64 (bt a0 a1)) + (wrap64 (256 * (wrap64 (bt a0 (ji10))))))))) + 4)) : Int).toNat).toList
                              · rw [if_pos c24] at H
                                have c24b0 : (t125.toList == (a0.extract (a1 : Int).toNat ((wrap64 ((wrap64 ((ji15) + (wrap64 ((wrap64 (bt a0 a1)) + (wrap64 (256 * (wrap64 (bt a0 (ji10))))))))) + 4)) : Int).toNat).toList) = true := beq_iff_eq.mpr c24
                                have c24b1 : (t125.toList != (a0.extract (a1 : Int).toNat ((wrap64 ((wrap64 ((ji15) + (wrap64 ((wrap64 (bt a0 a1)) + (wrap64 (256 * (wrap64 (bt a0 (ji10))))))))) + 4)) : Int).toNat).toList) = false := bne_eq_false_iff_eq.mpr c24
                                (try (have c24b0w := c24b0; try (rw [show wrap64 (bt a0 a1) = (bt a0 a1) from by unfold wrap64; omega] at c24b0w); try (rw [show wrap64 (bt a0 (ji10)) = (bt a0 (ji10)) from by unfold wrap64; omega] at c24b0w); try (rw [show wrap64 (256 * (wrap64 (bt a0 (ji10)))) = (256 * (wrap64 (bt a0 (ji10)))) from by unfold wrap64; omega] at c24b0w); try (rw [show wrap64 ((wrap64 (bt a0 a1)) + (wrap64 (256 * (wrap64 (bt a0 (ji10)))))) = ((wrap64 (bt a0 a1)) + (wrap64 (256 * (wrap64 (bt a0 (ji10)))))) from by unfold wrap64; omega] at c24b0w); try (rw [show wrap64 ((ji15) + (wrap64 ((wrap64 (bt a0 a1)) + (wrap64 (256 * (wrap64 (bt a0 (ji10)))))))) = ((ji15) + (wrap64 ((wrap64 (bt a0 a1)) + (wrap64 (256 * (wrap64 (bt a0 (ji10)))))))) from by unfold wrap64; omega] at c24b0w); try (rw [show wrap64 ((wrap64 ((ji15) + (wrap64 ((wrap64 (bt a0 a1)) + (wrap64 (256 * (wrap64 (bt a0 (ji10))))))))) + 4) = ((wrap64 ((ji15) + (wrap64 ((wrap64 (bt a0 a1)) + (wrap64 (256 * (wrap64 (bt a0 (ji10))))))))) + 4) from by unfold wrap64; omega] at c24b0w)))
                                (try (have c24b1w := c24b1; try (rw [show wrap64 (bt a0 a1) = (bt a0 a1) from by unfold wrap64; omega] at c24b1w); try (rw [show wrap64 (bt a0 (ji10)) = (bt a0 (ji10)) from by unfold wrap64; omega] at c24b1w); try (rw [show wrap64 (256 * (wrap64 (bt a0 (ji10)))) = (256 * (wrap64 (bt a0 (ji10)))) from by unfold wrap64; omega] at c24b1w); try (rw [show wrap64 ((wrap64 (bt a0 a1)) + (wrap64 (256 * (wrap64 (bt a0 (ji10)))))) = ((wrap64 (bt a0 a1)) + (wrap64 (256 * (wrap64 (bt a0 (ji10)))))) from by unfold wrap64; omega] at c24b1w); try (rw [show wrap64 ((ji15) + (wrap64 ((wrap64 (bt a0 a1)) + (wrap64 (256 * (wrap64 (bt a0 (ji10)))))))) = ((ji15) + (wrap64 ((wrap64 (bt a0 a1)) + (wrap64 (256 * (wrap64 (bt a0 (ji10)))))))) from by unfold wrap64; omega] at c24b1w); try (rw [show wrap64 ((wrap64 ((ji15) + (wrap64 ((wrap64 (bt a0 a1)) + (wrap64 (256 * (wrap64 (bt a0 (ji10))))))))) + 4) = ((wrap64 ((ji15) + (wrap64 ((wrap64 (bt a0 a1)) + (wrap64 (256 * (wrap64 (bt a0 (ji10))))))))) + 4) from by unfold wrap64; omega] at c24b1w)))
                                clear c24
                                simp only [Option.some.injEq, Prod.mk.injEq] at H
                                obtain ⟨rfl, rfl, rfl⟩ := H
                                have p9 : 0 ≤ (a1 : Int) := of_decide_eq_true (by first | (with_reducible assumption) | assumption)
                                have q9 : a1 < (a0.size : Int) := of_decide_eq_true (by first | (with_reducible assumption) | assumption)
                                have hx9 := bt_at a0 a1
                                replace p9 := eq_true p9
                                replace q9 := eq_true q9
                                have p13 : 0 ≤ ((ji10) : Int) := of_decide_eq_true (by first | (with_reducible assumption) | assumption)
                                have q13 : (ji10) < (a0.size : Int) := of_decide_eq_true (by first | (with_reducible assumption) | assumption)
                                have hx13 := bt_at a0 (ji10)
                                replace p13 := eq_true p13
                                replace q13 := eq_true q13
                                go_wp2_with (first | (go_at_call 8; (with_reducible refine (frame_Put.calls kj2 (a0.extract ((ji15) : Int).toNat ((wrap64 ((ji15) + (wrap64 ((wrap64 (bt a0 a1)) + (wrap64 (256 * (wrap64 (bt a0 (ji10))))))))) : Int).toNat) t125 t126 _ A19.out).mono ?_); rintro e w25 ⟨rfl, hb⟩; have n0_ := Aside0.mk (below_step (by repeat (first | (with_reducible first | exact HB.out | apply below_alloc | apply pw_below_drewN | apply below_drew1) | exact HB.out)) hb); clear HB; have HB := n0_; clear n0_; (try clear hb); (try clear hb2); (try clear hk); (try clear hi)))
                                repeat (go_quiet (first | (go_at_call 8; (with_reducible refine (frame_Put.calls kj2 (a0.extract ((ji15) : Int).toNat ((wrap64 ((ji15) + (wrap64 ((wrap64 (bt a0 a1)) + (wrap64 (256 * (wrap64 (bt a0 (ji10))))))))) : Int).toNat) t125 t126 _ A19.out).mono ?_); rintro e w25 ⟨rfl, hb⟩; have n0_ := Aside0.mk (below_step (by repeat (first | (with_reducible first | exact HB.out | apply below_alloc | apply pw_below_drewN | apply below_drew1) | exact HB.out)) hb); clear HB; have HB := n0_; clear n0_; (try clear hb); (try clear hb2); (try clear hk); (try clear hi))); try go_wp2_with (first | (go_at_call 8; (with_reducible refine (frame_Put.calls kj2 (a0.extract ((ji15) : Int).toNat ((wrap64 ((ji15) + (wrap64 ((wrap64 (bt a0 a1)) + (wrap64 (256 * (wrap64 (bt a0 (ji10))))))))) : Int).toNat) t125 t126 _ A19.out).mono ?_); rintro e w25 ⟨rfl, hb⟩; have n0_ := Aside0.mk (below_step (by repeat (first | (with_reducible first | exact HB.out | apply below_alloc | apply pw_below_drewN | apply below_drew1) | exact HB.out)) hb); clear HB; have HB := n0_; clear n0_; (try clear hb); (try clear hb2); (try clear hk); (try clear hi))))
                                go_ret3
                                exact ⟨by first | rfl | (simp [errW_none, errW_some] <;> rfl) | (simp only [← hji10, ← hji15]; first | rfl | (simp [errW_none, errW_some] <;> rfl)) | (simp [*, errW_none, errW_some] <;> rfl), by repeat (first | (with_reducible first | exact HB.out | apply below_alloc | apply pw_below_drewN | apply below_drew1) | exact HB.out)⟩
                              · rw [if_neg c24] at H
                                have c24b0 : (t125.toList == (a0.extract (a1 : Int).toNat ((wrap64 ((wrap64 ((ji15) + (wrap64 ((wrap64 (bt a0 a1)) + (wrap64 (256 * (wrap64 (bt a0 (ji10))))))))) + 4)) : Int).toNat).toList) = false := beq_eq_false_iff_ne.mpr c24
                                have c24b1 : (t125.toList != (a0.extract (a1 : Int).toNat ((wrap64 ((wrap64 ((ji15) + (wrap64 ((wrap64 (bt a0 a1)) + (wrap64 (256 * (wrap64 (bt a0 (ji10))))))))) + 4)) : Int).toNat).toList) = true := bne_iff_ne.mpr c24
                                (try (have c24b0w := c24b0; try (rw [show wrap64 (bt a0 a1) = (bt a0 a1) from by unfold wrap64; omega] at c24b0w); try (rw [show wrap64 (bt a0 (ji10)) = (bt a0 (ji10)) from by unfold wrap64; omega] at c24b0w); try (rw [show wrap64 (256 * (wrap64 (bt a0 (ji10)))) = (256 * (wrap64 (bt a0 (ji10)))) from by unfold wrap64; omega] at c24b0w); try (rw [show wrap64 ((wrap64 (bt a0 a1)) + (wrap64 (256 * (wrap64 (bt a0 (ji10)))))) = ((wrap64 (bt a0 a1)) + (wrap64 (256 * (wrap64 (bt a0 (ji10)))))) from by unfold wrap64; omega] at c24b0w); try (rw [show wrap64 ((ji15) + (wrap64 ((wrap64 (bt a0 a1)) + (wrap64 (256 * (wrap64 (bt a0 (ji10)))))))) = ((ji15) + (wrap64 ((wrap64 (bt a0 a1)) + (wrap64 (256 * (wrap64 (bt a0 (ji10)))))))) from by unfold wrap64; omega] at c24b0w); try (rw [show wrap64 ((wrap64 ((ji15) + (wrap64 ((wrap64 (bt a0 a1)) + (wrap64 (256 * (wrap64 (bt a0 (ji10))))))))) + 4) = ((wrap64 ((ji15) + (wrap64 ((wrap64 (bt a0 a1)) + (wrap64 (256 * (wrap64 (bt a0 (ji10))))))))) + 4) from by unfold wrap64; omega] at c24b0w)))
                                (try (have c24b1w := c24b1; try (rw [show wrap64 (bt a0 a1) = (bt a0 a1) from by unfold wrap64; omega] at c24b1w); try (rw [show wrap64 (bt a0 (ji10)) = (bt a0 (ji10)) from by unfold wrap64; omega] at c24b1w); try (rw [show wrap64 (256 * (wrap64 (bt a0 (ji10)))) = (256 * (wrap64 (bt a0 (ji10)))) from by unfold wrap64; omega] at c24b1w); try (rw [show wrap64 ((wrap64 (bt a0 a1)) + (wrap64 (256 * (wrap64 (bt a0 (ji10)))))) = ((wrap64 (bt a0 a1)) + (wrap64 (256 * (wrap64 (bt a0 (ji10)))))) from by unfold wrap64; omega] at c24b1w); try (rw [show wrap64 ((ji15) + (wrap64 ((wrap64 (bt a0 a1)) + (wrap64 (256 * (wrap64 (bt a0 (ji10)))))))) = ((ji15) + (wrap64 ((wrap64 (bt a0 a1)) + (wrap64 (256 * (wrap64 (bt a0 (ji10)))))))) from by unfold wrap64; omega] at c24b1w); try (rw [show wrap64 ((wrap64 ((ji15) + (wrap64 ((wrap64 (bt a0 a1)) + (wrap64 (256 * (wrap64 (bt a0 (ji10))))))))) + 4) = ((wrap64 ((ji15) + (wrap64 ((wrap64 (bt a0 a1)) + (wrap64 (256 * (wrap64 (bt a0 (ji10))))))))) + 4) from by unfold wrap64; omega] at c24b1w)))
                                simp only [Option.some.injEq, Prod.mk.injEq] at H
                                obtain ⟨rfl, rfl, rfl⟩ := H
                                have p9 : 0 ≤ (a1 : Int) := of_decide_eq_true (by first | (with_reducible assumption) | assumption)
                                have q9 : a1 < (a0.size : Int) := of_decide_eq_true (by first | (with_reducible assumption) | assumption)
                                have hx9 := bt_at a0 a1
                                replace p9 := eq_true p9
                                replace q9 := eq_true q9
                                have p13 : 0 ≤ ((ji10) : Int) := of_decide_eq_true (by first | (with_reducible assumption) | assumption)
                                have q13 : (ji10) < (a0.size : Int) := of_decide_eq_true (by first | (with_reducible assumption) | assumption)
                                have hx13 := bt_at a0 (ji10)
                                replace p13 := eq_true p13
                                replace q13 := eq_true q13
                                go_wp2_with (first | (go_at_call 8; (with_reducible refine (frame_Put.calls kj2 (a0.extract ((ji15) : Int).toNat ((wrap64 ((ji15) + (wrap64 ((wrap64 (bt a0 a1)) + (wrap64 (256 * (wrap64 (bt a0 (ji10))))))))) : Int).toNat) t125 t126 _ A19.out).mono ?_); rintro e w26 ⟨rfl, hb⟩; have n0_ := Aside0.mk (below_step (by repeat (first | (with_reducible first | exact HB.out | apply below_alloc | apply pw_below_drewN | apply below_drew1) | exact HB.out)) hb); clear HB; have HB := n0_; clear n0_; (try clear hb); (try clear hb2); (try clear hk); (try clear hi)))
                                repeat (go_quiet (first | (go_at_call 8; (with_reducible refine (frame_Put.calls kj2 (a0.extract ((ji15) : Int).toNat ((wrap64 ((ji15) + (wrap64 ((wrap64 (bt a0 a1)) + (wrap64 (256 * (wrap64 (bt a0 (ji10))))))))) : Int).toNat) t125 t126 _ A19.out).mono ?_); rintro e w26 ⟨rfl, hb⟩; have n0_ := Aside0.mk (below_step (by repeat (first | (with_reducible first | exact HB.out | apply below_alloc | apply pw_below_drewN | apply below_drew1) | exact HB.out)) hb); clear HB; have HB := n0_; clear n0_; (try clear hb); (try clear hb2); (try clear hk); (try clear hi))); try go_wp2_with (first | (go_at_call 8; (with_reducible refine (frame_Put.calls kj2 (a0.extract ((ji15) : Int).toNat ((wrap64 ((ji15) + (wrap64 ((wrap64 (bt a0 a1)) + (wrap64 (256 * (wrap64 (bt a0 (ji10))))))))) : Int).toNat) t125 t126 _ A19.out).mono ?_); rintro e w26 ⟨rfl, hb⟩; have n0_ := Aside0.mk (below_step (by repeat (first | (with_reducible first | exact HB.out | apply below_alloc | apply pw_below_drewN | apply below_drew1) | exact HB.out)) hb); clear HB; have HB := n0_; clear n0_; (try clear hb); (try clear hb2); (try clear hk); (try clear hi))))
                                go_ret3
                                exact ⟨by first | rfl | (simp [errW_none, errW_some] <;> rfl) | (simp only [← hji10, ← hji15]; first | rfl | (simp [errW_none, errW_some] <;> rfl)) | (simp [*, errW_none, errW_some] <;> rfl), by repeat (first | (with_reducible first | exact HB.out | apply below_alloc | apply pw_below_drewN | apply below_drew1) | exact HB.out)⟩
                            · rw [if_neg c23] at H
                              exact absurd H (by simp)
                          · rw [if_neg c22] at H
                            exact absurd H (by simp)
                        · rw [if_neg c20] at H
                          have c20b0 : (t126 == 0) = false := beq_eq_false_iff_ne.mpr c20
                          have c20b1 : (t126 != 0) = true := bne_iff_ne.mpr c20
                          simp only [Option.some.injEq, Prod.mk.injEq] at H
                          obtain ⟨rfl, rfl, rfl⟩ := H
                          have p9 : 0 ≤ (a1 : Int) := of_decide_eq_true (by first | (with_reducible assumption) | assumption)
                          have q9 : a1 < (a0.size : Int) := of_decide_eq_true (by first | (with_reducible assumption) | assumption)
                          have hx9 := bt_at a0 a1
                          replace p9 := eq_true p9
                          replace q9 := eq_true q9
                          have p13 : 0 ≤ ((ji10) : Int) := of_decide_eq_true (by first | (with_reducible assumption) | assumption)
                          have q13 : (ji10) < (a0.size : Int) := of_decide_eq_true (by first | (with_reducible assumption) | assumption)
                          have hx13 := bt_at a0 (ji10)
                          replace p13 := eq_true p13
                          replace q13 := eq_true q13
                          go_wp2_with (first | (go_at_call 8; (with_reducible refine (frame_Put.calls kj2 (a0.extract ((ji15) : Int).toNat ((wrap64 ((ji15) + (wrap64 ((wrap64 (bt a0 a1)) + (wrap64 (256 * (wrap64 (bt a0 (ji10))))))))) : Int).toNat) t125 t126 _ A19.out).mono ?_); rintro e w27 ⟨rfl, hb⟩; have n0_ := Aside0.mk (below_step (by repeat (first | (with_reducible first | exact HB.out | apply below_alloc | apply pw_below_drewN | apply below_drew1) | exact HB.out)) hb); clear HB; have HB := n0_; clear n0_; (try clear hb); (try clear hb2); (try clear hk); (try clear hi)))
                          repeat (go_quiet (first | (go_at_call 8; (with_reducible refine (frame_Put.calls kj2 (a0.extract ((ji15) : Int).toNat ((wrap64 ((ji15) + (wrap64 ((wrap64 (bt a0 a1)) + (wrap64 (256 * (wrap64 (bt a0 (ji10))))))))) : Int).toNat) t125 t126 _ A19.out).mono ?_); rintro e w27 ⟨rfl, hb⟩; have n0_ := Aside0.mk (below_step (by repeat (first | (with_reducible first | exact HB.out | apply below_alloc | apply pw_below_drewN | apply below_drew1) | exact HB.out)) hb); clear HB; have HB := n0_; clear n0_; (try clear hb); (try clear hb2); (try clear hk); (try clear hi))); try go_wp2_with (first | (go_at_call 8; (with_reducible refine (frame_Put.calls kj2 (a0.extract ((ji15) : Int).toNat ((wrap64 ((ji15) + (wrap64 ((wrap64 (bt a0 a1)) + (wrap64 (256 * (wrap64 (bt a0 (ji10))))))))) : Int).toNat) t125 t126 _ A19.out).mono ?_); rintro e w27 ⟨rfl, hb⟩; have n0_ := Aside0.mk (below_step (by repeat (first | (with_reducible first | exact HB.out | apply below_alloc | apply pw_below_drewN | apply below_drew1) | exact HB.out)) hb); clear HB; have HB := n0_; clear n0_; (try clear hb); (try clear hb2); (try clear hk); (try clear hi))))
                          go_ret3
                          exact ⟨by first | rfl | (simp [errW_none, errW_some] <;> rfl) | (simp only [← hji10, ← hji15]; first | rfl | (simp [errW_none, errW_some] <;> rfl)) | (simp [*, errW_none, errW_some] <;> rfl), by repeat (first | (with_reducible first | exact HB.out | apply below_alloc | apply pw_below_drewN | apply below_drew1) | exact HB.out)⟩
                      · rw [if_neg c18] at H
                        exact absurd H (by simp)
                    · rw [if_neg c17] at H
                      exact absurd H (by simp)
                  · rw [if_neg c16] at H
                    exact absurd H (by simp)
              · rw [if_neg c12] at H
                exact absurd H (by simp)
            · rw [if_neg c11] at H
              exact absurd H (by simp)
          · rw [if_neg c8] at H
            exact absurd H (by simp)
        · rw [if_neg c7] at H
          exact absurd H (by simp)

end Go.Proofs.Yteaaaldfccildaa.G
