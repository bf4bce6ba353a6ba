-- Laid by the session's own driver gp.py over the kit's printer. Not trusted: Lean checks it.
import Derived.Test.YtnoehmpmkfkgfaaDoorG0
import Derived.Test.YtnoehmpmkfkgfaaDoorG12
import Derived.Test.YtnoehmpmkfkgfaaDoorG14
import Derived.Test.YtnoehmpmkfkgfaaDoorG20
import Derived.Test.YtnoehmpmkfkgfaaDoorG21
namespace Go.Proofs.YtnoehmpmkfkgfaaDoor.G
open Go.RowKit Go.Proofs.YtnoehmpmkfkgfaaDoorW.PrintWords Go.Proofs.YtnoehmpmkfkgfaaDoorW.PrintLast Go.Proofs.YtnoehmpmkfkgfaaDoorW.PrintMore
attribute [local go_sem] max2_int min2_int max_two min_two max_three min_three max_four min_four   -- for this text's walks alone
set_option linter.unusedVariables false
set_option linter.unusedSimpArgs false

/-! ### sleuthref1_Make: function 18 -/
mutual
def sleuthref1_Make.j0 : Nat → Int → Int → List ByteArray → Bool → Option (ByteArray × Int)
  | 0, _, _, _, _ => none
  | k + 1, x0, x1, x2, x20 => if x20 = true then (some ((⟨#[]⟩ : ByteArray), 200)) else (if x0 = 0 then (sleuthref1_Make.j1 k x0 x1 x2 (⟨#[95]⟩ : ByteArray)) else (if x0 = 3 then (sleuthref1_Make.j1 k x0 x1 x2 (⟨#[33]⟩ : ByteArray)) else (if x0 = 1 then ((sleuthref0_Decimal.f k x1).bind fun t344 => (sleuthref1_Make.j1 k x0 x1 x2 t344)) else (if x0 = 2 then ((sleuthref0_Decimal.f k x1).bind fun t345 => (if 1 + t345.size ≤ 9223372036854775807 then (if (x2.length : Int) > 0 then (if ((⟨#[64]⟩ : ByteArray) ++ t345).size + 1 ≤ 9223372036854775807 then ((sleuthref1_Join.f k x2).bind fun t346 => (if (((⟨#[64]⟩ : ByteArray) ++ t345) ++ (⟨#[40]⟩ : ByteArray)).size + t346.size ≤ 9223372036854775807 then (if ((((⟨#[64]⟩ : ByteArray) ++ t345) ++ (⟨#[40]⟩ : ByteArray)) ++ t346).size + 1 ≤ 9223372036854775807 then (sleuthref1_Make.j1 k x0 x1 x2 (((((⟨#[64]⟩ : ByteArray) ++ t345) ++ (⟨#[40]⟩ : ByteArray)) ++ t346) ++ (⟨#[41]⟩ : ByteArray))) else (none)) else (none))) else (none)) else (sleuthref1_Make.j1 k x0 x1 x2 ((⟨#[64]⟩ : ByteArray) ++ t345))) else (none))) else (sleuthref1_Make.j1 k x0 x1 x2 (⟨#[]⟩ : ByteArray))))))
def sleuthref1_Make.j1 : Nat → Int → Int → List ByteArray → ByteArray → Option (ByteArray × Int)
  | 0, _, _, _, _ => none
  | k + 1, x0, x1, x2, x8 => (sleuthref1_Cut.f k x8).bind fun bt347 => (if bt347.2.2.2 = 0 then (if bt347.1 = x0 then (if bt347.2.1 = x1 then ((sleuthref1_same.f k bt347.2.2.1 x2).bind fun t353 => (if t353 = true then (some (x8, 0)) else (some ((⟨#[]⟩ : ByteArray), 200)))) else (some ((⟨#[]⟩ : ByteArray), 200))) else (some ((⟨#[]⟩ : ByteArray), 200))) else (some ((⟨#[]⟩ : ByteArray), 200)))
end
def sleuthref1_Make.f (k : Nat) (a0 : Int) (a1 : Int) (l2 : List ByteArray) : Option (ByteArray × Int) := if (l2.length : Int) > 3 then (sleuthref1_Make.j0 k a0 a1 l2 true) else ((sleuthref1_upTo.f a1 (-32768) 32767).bind fun t343 => (sleuthref1_Make.j0 k a0 a1 l2 (!t343)))
theorem sleuthref1_Make.mono_l : ∀ k, (∀ y0 y1 y2 y3, LeO (sleuthref1_Make.j0 k y0 y1 y2 y3) (sleuthref1_Make.j0 (k + 1) y0 y1 y2 y3)) ∧ (∀ y0 y1 y2 y3, LeO (sleuthref1_Make.j1 k y0 y1 y2 y3) (sleuthref1_Make.j1 (k + 1) y0 y1 y2 y3))
  | 0 => ⟨fun _ _ _ _ r h => by simp [sleuthref1_Make.j0] at h, fun _ _ _ _ r h => by simp [sleuthref1_Make.j1] at h⟩
  | k + 1 => by
    obtain ⟨ih0, ih1⟩ := sleuthref1_Make.mono_l k
    refine ⟨?_, ?_⟩
    · intro y0 y1 y2 y3
      unfold sleuthref1_Make.j0
      repeat' first
      | (with_reducible exact ih0 _ _ _ _)
      | (with_reducible exact ih1 _ _ _ _)
      | (with_reducible exact sleuthref0_Decimal.mono _ _)
      | (with_reducible exact sleuthref1_Cut.mono _ _)
      | (with_reducible exact sleuthref1_Join.mono _ _)
      | (with_reducible exact sleuthref1_same.mono _ _ _)
      | (with_reducible exact LeO.refl _)
      | (with_reducible exact LeO.none _)
      | (with_reducible refine LeO.ite ?_ ?_)
      | (with_reducible refine LeO.bind ?_ (fun _ => ?_))
      | exact ih0 _ _ _ _
      | exact ih1 _ _ _ _
      | exact sleuthref0_Decimal.mono _ _
      | exact sleuthref1_Cut.mono _ _
      | exact sleuthref1_Join.mono _ _
      | exact sleuthref1_same.mono _ _ _
      | exact LeO.none _
      | refine LeO.ite ?_ ?_
      | refine LeO.bind ?_ (fun _ => ?_)
    · intro y0 y1 y2 y3
      unfold sleuthref1_Make.j1
      repeat' first
      | (with_reducible exact ih0 _ _ _ _)
      | (with_reducible exact ih1 _ _ _ _)
      | (with_reducible exact sleuthref0_Decimal.mono _ _)
      | (with_reducible exact sleuthref1_Cut.mono _ _)
      | (with_reducible exact sleuthref1_Join.mono _ _)
      | (with_reducible exact sleuthref1_same.mono _ _ _)
      | (with_reducible exact LeO.refl _)
      | (with_reducible exact LeO.none _)
      | (with_reducible refine LeO.ite ?_ ?_)
      | (with_reducible refine LeO.bind ?_ (fun _ => ?_))
      | exact ih0 _ _ _ _
      | exact ih1 _ _ _ _
      | exact sleuthref0_Decimal.mono _ _
      | exact sleuthref1_Cut.mono _ _
      | exact sleuthref1_Join.mono _ _
      | exact sleuthref1_same.mono _ _ _
      | exact LeO.none _
      | refine LeO.ite ?_ ?_
      | refine LeO.bind ?_ (fun _ => ?_)
theorem sleuthref1_Make.mono : ∀ a0 a1 a2 k, LeO (sleuthref1_Make.f k a0 a1 a2) (sleuthref1_Make.f (k + 1) a0 a1 a2) := by
  intro a0 a1 a2 k
  obtain ⟨ih0, ih1⟩ := sleuthref1_Make.mono_l k
  unfold sleuthref1_Make.f
  repeat' first
      | (with_reducible exact ih0 _ _ _ _)
      | (with_reducible exact ih1 _ _ _ _)
      | (with_reducible exact sleuthref0_Decimal.mono _ _)
      | (with_reducible exact sleuthref1_Cut.mono _ _)
      | (with_reducible exact sleuthref1_Join.mono _ _)
      | (with_reducible exact sleuthref1_same.mono _ _ _)
      | (with_reducible exact LeO.refl _)
      | (with_reducible exact LeO.none _)
      | (with_reducible refine LeO.ite ?_ ?_)
      | (with_reducible refine LeO.bind ?_ (fun _ => ?_))
      | exact ih0 _ _ _ _
      | exact ih1 _ _ _ _
      | exact sleuthref0_Decimal.mono _ _
      | exact sleuthref1_Cut.mono _ _
      | exact sleuthref1_Join.mono _ _
      | exact sleuthref1_same.mono _ _ _
      | exact LeO.none _
      | refine LeO.ite ?_ ?_
      | refine LeO.bind ?_ (fun _ => ?_)
set_option maxHeartbeats 8000000 in
set_option maxRecDepth 100000 in
theorem sleuthref1_Make.calls (k : Nat) (a0 : Int) (a1 : Int) (A2 : Option Addr) (c2 : Nat) (l2 : List ByteArray) (r1 : ByteArray) (r2 : Int) (w : World) (hr2 : Kd.C Kd.string w A2 l2.length l2) (hc2 : l2.length ≤ c2) (h : sleuthref1_Make.f k a0 a1 l2 = some (r1, r2)) :
    Calls Tryd.prog 18 #[.int .i64 a0, .int .i64 a1, .slice A2 l2.length c2] w fun e w' => e = .returned (.tuple #[.string r1, .int .i64 r2]) ∧ Below w.heap.size w w' := by
  have HR2 := Aside0.mk hr2
  have HC2 := Aside0.mk hc2
  clear hr2 hc2
  have HB := Aside0.mk (Below.refl w.heap.size w)
  have H : (if (l2.length : Int) > 3 then (sleuthref1_Make.j0 k a0 a1 l2 true) else ((sleuthref1_upTo.f a1 (-32768) 32767).bind fun t343 => (sleuthref1_Make.j0 k a0 a1 l2 (!t343)))) = some (r1, r2) := h
  clear h
  have HC4 := Aside0.mk H
  clear H
  go_enter Tryd.func18, Tryd.ntmps18
  go_upto_region 1 with (fail)
  go_cut [20] (fun v20 wc => ∃ (kq : Nat) (x20_3 : Bool), v20 = .bool x20_3 ∧ Aside0 (sleuthref1_Make.j0 kq a0 a1 l2 x20_3 = some (r1, r2)) ∧ Aside0 (kq ≤ k) ∧ Aside0 (Below w.heap.size w wc))
  case first =>
    have H := HC4.out
    clear HC4
    by_cases c5 : (l2.length : Int) > 3
    · rw [if_pos c5] at H
      have c5b0 : decide (3 < (l2.length : Int)) = true := decide_eq_true c5
      have c5b1 : decide (3 < l2.length) = true := decide_eq_true (by omega)
      clear c5
      (first | rw [c5b0] | (simp only [i64_w, i32_w]; rw [c5b0]) | skip)
      have H' := Aside0.mk H
      clear H
      go_wp2
      go_meet
      case rel => exact ⟨_, (true), (by first | rfl | (simp; done) | (simp [*]; done)), H', ⟨by first | omega | exact Nat.le_refl _⟩, ⟨by repeat (first | (with_reducible first | exact HB.out | apply below_alloc | apply pw_below_drewN | apply below_drew1) | exact HB.out)⟩⟩
    · rw [if_neg c5] at H
      have c5b0 : decide (3 < (l2.length : Int)) = false := decide_eq_false c5
      have c5b1 : decide (3 < l2.length) = false := decide_eq_false (by omega)
      clear c5
      (first | rw [c5b0] | (simp only [i64_w, i32_w]; rw [c5b0]) | skip)
      replace H := Option.bind_eq_some_iff.mp H
      obtain ⟨t343, A60, H⟩ := H
      replace H : (sleuthref1_Make.j0 k a0 a1 l2 (!t343)) = some (r1, r2) := H
      have A6 := Aside0.mk A60
      clear A60
      have H' := Aside0.mk H
      clear H
      go_wp2_with (first | (go_at_call 32; (with_reducible refine (sleuthref1_upTo.calls a1 (-32768) 32767 t343 _ A6.out).mono ?_); rintro e w' ⟨rfl, ⟨nd, rfl⟩⟩))
      go_meet
      case rel => exact ⟨_, (!t343), (by first | rfl | (simp; done) | (simp [*]; done)), H', ⟨by first | omega | exact Nat.le_refl _⟩, ⟨by repeat (first | (with_reducible first | exact HB.out | apply below_alloc | apply pw_below_drewN | apply below_drew1) | exact HB.out)⟩⟩
  case rest =>
    clear HC4
    try clear c1
    try clear c2
    try clear p2
    try clear c5
    try clear c5b0
    try clear c5b1
    obtain ⟨kq, x20_3, rfl, HA, HJ3, HB⟩ := hcut
    cases kq with
    | zero => exact absurd HA.out (by simp [sleuthref1_Make.j0])
    | succ kj3 =>
      have H := HA.out
      clear HA
      simp only [sleuthref1_Make.j0] at H
      by_cases c7 : x20_3 = true
      · subst c7
        have H1 : (some ((⟨#[]⟩ : ByteArray), 200)) = some (r1, r2) := by rw [if_pos rfl] at H; exact H
        clear H
        have H := H1
        clear H1
        simp only [Option.some.injEq, Prod.mk.injEq] at H
        obtain ⟨rfl, rfl⟩ := H
        go_wp2
        go_ret2
        exact ⟨by first | rfl | (simp [errW_none, errW_some] <;> rfl) | (simp [*, errW_none, errW_some] <;> rfl), by repeat (first | (with_reducible first | exact HB.out | apply below_alloc | apply pw_below_drewN | apply below_drew1) | exact HB.out)⟩
      · replace c7 := Bool.eq_false_iff.mpr c7
        subst c7
        have H1 : (if a0 = 0 then (sleuthref1_Make.j1 kj3 a0 a1 l2 (⟨#[95]⟩ : ByteArray)) else (if a0 = 3 then (sleuthref1_Make.j1 kj3 a0 a1 l2 (⟨#[33]⟩ : ByteArray)) else (if a0 = 1 then ((sleuthref0_Decimal.f kj3 a1).bind fun t344 => (sleuthref1_Make.j1 kj3 a0 a1 l2 t344)) else (if a0 = 2 then ((sleuthref0_Decimal.f kj3 a1).bind fun t345 => (if 1 + t345.size ≤ 9223372036854775807 then (if (l2.length : Int) > 0 then (if ((⟨#[64]⟩ : ByteArray) ++ t345).size + 1 ≤ 9223372036854775807 then ((sleuthref1_Join.f kj3 l2).bind fun t346 => (if (((⟨#[64]⟩ : ByteArray) ++ t345) ++ (⟨#[40]⟩ : ByteArray)).size + t346.size ≤ 9223372036854775807 then (if ((((⟨#[64]⟩ : ByteArray) ++ t345) ++ (⟨#[40]⟩ : ByteArray)) ++ t346).size + 1 ≤ 9223372036854775807 then (sleuthref1_Make.j1 kj3 a0 a1 l2 (((((⟨#[64]⟩ : ByteArray) ++ t345) ++ (⟨#[40]⟩ : ByteArray)) ++ t346) ++ (⟨#[41]⟩ : ByteArray))) else (none)) else (none))) else (none)) else (sleuthref1_Make.j1 kj3 a0 a1 l2 ((⟨#[64]⟩ : ByteArray) ++ t345))) else (none))) else (sleuthref1_Make.j1 kj3 a0 a1 l2 (⟨#[]⟩ : ByteArray)))))) = some (r1, r2) := by rw [if_neg (show ¬ (false = true) by decide)] at H; exact H
        clear H
        have H := H1
        clear H1
        have HC8 := Aside0.mk H
        clear H
        go_upto_block 0 with (fail)
        go_cut [8] (fun v8 wc => ∃ (kq : Nat) (x8_7 : ByteArray), v8 = .string x8_7 ∧ Aside0 (sleuthref1_Make.j1 kq a0 a1 l2 x8_7 = some (r1, r2)) ∧ Aside0 (kq ≤ kj3) ∧ Aside0 (Below w.heap.size w wc))
        case first =>
          have H := HC8.out
          clear HC8
          by_cases c9 : a0 = 0
          · rw [if_pos c9] at H
            have c9b0 : (a0 == 0) = true := beq_iff_eq.mpr c9
            have c9b1 : (a0 != 0) = false := bne_eq_false_iff_eq.mpr c9
            clear c9
            (first | rw [c9b0] | (simp only [i64_w, i32_w]; rw [c9b0]) | skip)
            have H' := Aside0.mk H
            clear H
            go_wp2
            go_meet
            case rel => exact ⟨_, ((⟨#[95]⟩ : ByteArray)), (by first | rfl | (simp; done) | (simp [*]; done)), H', ⟨by have := HJ3.out; first | omega | exact Nat.le_refl _⟩, ⟨by repeat (first | (with_reducible first | exact HB.out | apply below_alloc | apply pw_below_drewN | apply below_drew1) | exact HB.out)⟩⟩
          · rw [if_neg c9] at H
            have c9b0 : (a0 == 0) = false := beq_eq_false_iff_ne.mpr c9
            have c9b1 : (a0 != 0) = true := bne_iff_ne.mpr c9
            (first | rw [c9b0] | (simp only [i64_w, i32_w]; rw [c9b0]) | skip)
            by_cases c10 : a0 = 3
            · rw [if_pos c10] at H
              have c10b0 : (a0 == 3) = true := beq_iff_eq.mpr c10
              have c10b1 : (a0 != 3) = false := bne_eq_false_iff_eq.mpr c10
              clear c10
              have H' := Aside0.mk H
              clear H
              go_wp2
              go_meet
              case rel => exact ⟨_, ((⟨#[33]⟩ : ByteArray)), (by first | rfl | (simp; done) | (simp [*]; done)), H', ⟨by have := HJ3.out; first | omega | exact Nat.le_refl _⟩, ⟨by repeat (first | (with_reducible first | exact HB.out | apply below_alloc | apply pw_below_drewN | apply below_drew1) | exact HB.out)⟩⟩
            · rw [if_neg c10] at H
              have c10b0 : (a0 == 3) = false := beq_eq_false_iff_ne.mpr c10
              have c10b1 : (a0 != 3) = true := bne_iff_ne.mpr c10
              by_cases c11 : a0 = 1
              · rw [if_pos c11] at H
                have c11b0 : (a0 == 1) = true := beq_iff_eq.mpr c11
                have c11b1 : (a0 != 1) = false := bne_eq_false_iff_eq.mpr c11
                clear c11
                replace H := Option.bind_eq_some_iff.mp H
                obtain ⟨t344, A120, H⟩ := H
                replace H : (sleuthref1_Make.j1 kj3 a0 a1 l2 t344) = some (r1, r2) := H
                have A12 := Aside0.mk A120
                clear A120
                have H' := Aside0.mk H
                clear H
                go_wp2_with (first | ((with_reducible refine gate_callee (f := 33) rfl ?_); refine goesL_ (some 29) rfl rfl Tryd.func33 (by kernel_rfl) rfl #[.int .i64 a1] rfl (by (try simp only [List.map_toArray, List.map_cons, List.map_nil]); first | done | rfl | (simp only [List.length_drop, List.length_take]; rfl)) ?_; (with_reducible refine (sleuthref0_Decimal.calls kj3 a1 t344 _ A12.out).mono ?_); rintro e w13 ⟨rfl, hb⟩; refine ⟨_, rfl, ?_⟩; have n0_ := Aside0.mk (below_step (by repeat (first | (with_reducible first | exact HB.out | apply below_alloc | apply pw_below_drewN | apply below_drew1) | exact HB.out)) hb); clear HB; have HB := n0_; clear n0_; (try clear hb); (try clear hb2); (try clear hk); (try clear hi)))
                go_meet
                case rel => exact ⟨_, (t344), (by first | rfl | (simp; done) | (simp [*]; done)), H', ⟨by have := HJ3.out; first | omega | exact Nat.le_refl _⟩, ⟨by repeat (first | (with_reducible first | exact HB.out | apply below_alloc | apply pw_below_drewN | apply below_drew1) | exact HB.out)⟩⟩
              · rw [if_neg c11] at H
                have c11b0 : (a0 == 1) = false := beq_eq_false_iff_ne.mpr c11
                have c11b1 : (a0 != 1) = true := bne_iff_ne.mpr c11
                by_cases c14 : a0 = 2
                · rw [if_pos c14] at H
                  have c14b0 : (a0 == 2) = true := beq_iff_eq.mpr c14
                  have c14b1 : (a0 != 2) = false := bne_eq_false_iff_eq.mpr c14
                  clear c14
                  replace H := Option.bind_eq_some_iff.mp H
                  obtain ⟨t345, A150, H⟩ := H
                  replace H : (if 1 + t345.size ≤ 9223372036854775807 then (if (l2.length : Int) > 0 then (if ((⟨#[64]⟩ : ByteArray) ++ t345).size + 1 ≤ 9223372036854775807 then ((sleuthref1_Join.f kj3 l2).bind fun t346 => (if (((⟨#[64]⟩ : ByteArray) ++ t345) ++ (⟨#[40]⟩ : ByteArray)).size + t346.size ≤ 9223372036854775807 then (if ((((⟨#[64]⟩ : ByteArray) ++ t345) ++ (⟨#[40]⟩ : ByteArray)) ++ t346).size + 1 ≤ 9223372036854775807 then (sleuthref1_Make.j1 kj3 a0 a1 l2 (((((⟨#[64]⟩ : ByteArray) ++ t345) ++ (⟨#[40]⟩ : ByteArray)) ++ t346) ++ (⟨#[41]⟩ : ByteArray))) else (none)) else (none))) else (none)) else (sleuthref1_Make.j1 kj3 a0 a1 l2 ((⟨#[64]⟩ : ByteArray) ++ t345))) else (none)) = some (r1, r2) := H
                  have A15 := Aside0.mk A150
                  clear A150
                  by_cases c16 : 1 + t345.size ≤ 9223372036854775807
                  · rw [if_pos c16] at H
                    have c16b0 := eq_true c16
                    have c16b1 : decide (1 + t345.size ≤ 9223372036854775807) = true := decide_eq_true c16
                    try have c16b2 : (9223372036854775807 < 1 + t345.size) = False := eq_false (Nat.not_lt.2 c16)
                    by_cases c17 : (l2.length : Int) > 0
                    · rw [if_pos c17] at H
                      have c17b0 : decide (0 < (l2.length : Int)) = true := decide_eq_true c17
                      have c17b1 : decide (0 < l2.length) = true := decide_eq_true (by omega)
                      clear c17
                      by_cases c18 : ((⟨#[64]⟩ : ByteArray) ++ t345).size + 1 ≤ 9223372036854775807
                      · rw [if_pos c18] at H
                        have c18b0 := eq_true c18
                        have c18b1 : decide (((⟨#[64]⟩ : ByteArray) ++ t345).size + 1 ≤ 9223372036854775807) = true := decide_eq_true c18
                        try have c18b2 : (9223372036854775807 < ((⟨#[64]⟩ : ByteArray) ++ t345).size + 1) = False := eq_false (Nat.not_lt.2 c18)
                        try have c18b3 : (9223372036854775807 < 1 + t345.size + 1) = False := eq_false (Nat.not_lt.2 (by have h_ := c18; simp only [ByteArray.size_append, ByteArray.size_extract, Nat.min_self, show (⟨#[64]⟩ : ByteArray).size = 1 from rfl] at h_; omega))
                        replace H := Option.bind_eq_some_iff.mp H
                        obtain ⟨t346, A190, H⟩ := H
                        replace H : (if (((⟨#[64]⟩ : ByteArray) ++ t345) ++ (⟨#[40]⟩ : ByteArray)).size + t346.size ≤ 9223372036854775807 then (if ((((⟨#[64]⟩ : ByteArray) ++ t345) ++ (⟨#[40]⟩ : ByteArray)) ++ t346).size + 1 ≤ 9223372036854775807 then (sleuthref1_Make.j1 kj3 a0 a1 l2 (((((⟨#[64]⟩ : ByteArray) ++ t345) ++ (⟨#[40]⟩ : ByteArray)) ++ t346) ++ (⟨#[41]⟩ : ByteArray))) else (none)) else (none)) = some (r1, r2) := H
                        have A19 := Aside0.mk A190
                        clear A190
                        by_cases c20 : (((⟨#[64]⟩ : ByteArray) ++ t345) ++ (⟨#[40]⟩ : ByteArray)).size + t346.size ≤ 9223372036854775807
                        · rw [if_pos c20] at H
                          have c20b0 := eq_true c20
                          have c20b1 : decide ((((⟨#[64]⟩ : ByteArray) ++ t345) ++ (⟨#[40]⟩ : ByteArray)).size + t346.size ≤ 9223372036854775807) = true := decide_eq_true c20
                          try have c20b2 : (9223372036854775807 < (((⟨#[64]⟩ : ByteArray) ++ t345) ++ (⟨#[40]⟩ : ByteArray)).size + t346.size) = False := eq_false (Nat.not_lt.2 c20)
                          try have c20b3 : (9223372036854775807 < 1 + t345.size + 1 + t346.size) = False := eq_false (Nat.not_lt.2 (by have h_ := c20; simp only [ByteArray.size_append, ByteArray.size_extract, Nat.min_self, show (⟨#[64]⟩ : ByteArray).size = 1 from rfl, show (⟨#[40]⟩ : ByteArray).size = 1 from rfl] at h_; omega))
                          by_cases c21 : ((((⟨#[64]⟩ : ByteArray) ++ t345) ++ (⟨#[40]⟩ : ByteArray)) ++ t346).size + 1 ≤ 9223372036854775807
                          · rw [if_pos c21] at H
                            have c21b0 := eq_true c21
                            have c21b1 : decide (((((⟨#[64]⟩ : ByteArray) ++ t345) ++ (⟨#[40]⟩ : ByteArray)) ++ t346).size + 1 ≤ 9223372036854775807) = true := decide_eq_true c21
                            try have c21b2 : (9223372036854775807 < ((((⟨#[64]⟩ : ByteArray) ++ t345) ++ (⟨#[40]⟩ : ByteArray)) ++ t346).size + 1) = False := eq_false (Nat.not_lt.2 c21)
                            try have c21b3 : (9223372036854775807 < 1 + t345.size + 1 + t346.size + 1) = False := eq_false (Nat.not_lt.2 (by have h_ := c21; simp only [ByteArray.size_append, ByteArray.size_extract, Nat.min_self, show (⟨#[64]⟩ : ByteArray).size = 1 from rfl, show (⟨#[40]⟩ : ByteArray).size = 1 from rfl] at h_; omega))
                            have H' := Aside0.mk H
                            clear H
                            go_wp2_with (first | ((with_reducible refine gate_callee (f := 33) rfl ?_); refine goesL_ (some 33) rfl rfl Tryd.func33 (by kernel_rfl) rfl #[.int .i64 a1] rfl (by (try simp only [List.map_toArray, List.map_cons, List.map_nil]); first | done | rfl | (simp only [List.length_drop, List.length_take]; rfl)) ?_; (with_reducible refine (sleuthref0_Decimal.calls kj3 a1 t345 _ A15.out).mono ?_); rintro e w22 ⟨rfl, hb⟩; refine ⟨_, rfl, ?_⟩; have n0_ := Aside0.mk (below_step (by repeat (first | (with_reducible first | exact HB.out | apply below_alloc | apply pw_below_drewN | apply below_drew1) | exact HB.out)) hb); clear HB; have HB := n0_; clear n0_; (try clear hb); (try clear hb2); (try clear hk); (try clear hi)) | ((with_reducible refine gate_callee (f := 34) rfl ?_); refine goesL_ (some 41) rfl rfl Tryd.func34 (by kernel_rfl) rfl #[.slice A2 l2.length c2] rfl (by (try simp only [List.map_toArray, List.map_cons, List.map_nil]); first | done | rfl | (simp only [List.length_drop, List.length_take]; rfl)) ?_; (with_reducible refine (sleuthref1_Join.calls kj3 _ _ l2 t346 _ ?side1 ?side2 A19.out).mono ?_); (case side1 => repeat (first | exact (Kd.C_below HR2.out HB.out) | (with_reducible refine Kd.C_alloc ?_ _) | (with_reducible refine Kd.C_drewN ?_ _) | (with_reducible refine Kd.C_drew ?_))); (case side2 => exact HC2.out); rintro e w' ⟨rfl, ⟨nd, rfl⟩⟩; refine ⟨_, rfl, ?_⟩))
                            go_meet
                            case rel => exact ⟨_, (((((⟨#[64]⟩ : ByteArray) ++ t345) ++ (⟨#[40]⟩ : ByteArray)) ++ t346) ++ (⟨#[41]⟩ : ByteArray)), (by first | rfl | (simp; done) | (simp [*]; done)), H', ⟨by have := HJ3.out; first | omega | exact Nat.le_refl _⟩, ⟨by repeat (first | (with_reducible first | exact HB.out | apply below_alloc | apply pw_below_drewN | apply below_drew1) | exact HB.out)⟩⟩
                          · rw [if_neg c21] at H
                            exact absurd H (by simp)
                        · rw [if_neg c20] at H
                          exact absurd H (by simp)
                      · rw [if_neg c18] at H
                        exact absurd H (by simp)
                    · rw [if_neg c17] at H
                      have c17b0 : decide (0 < (l2.length : Int)) = false := decide_eq_false c17
                      have c17b1 : decide (0 < l2.length) = false := decide_eq_false (by omega)
                      clear c17
                      have H' := Aside0.mk H
                      clear H
                      go_wp2_with (first | ((with_reducible refine gate_callee (f := 33) rfl ?_); refine goesL_ (some 33) rfl rfl Tryd.func33 (by kernel_rfl) rfl #[.int .i64 a1] rfl (by (try simp only [List.map_toArray, List.map_cons, List.map_nil]); first | done | rfl | (simp only [List.length_drop, List.length_take]; rfl)) ?_; (with_reducible refine (sleuthref0_Decimal.calls kj3 a1 t345 _ A15.out).mono ?_); rintro e w23 ⟨rfl, hb⟩; refine ⟨_, rfl, ?_⟩; have n0_ := Aside0.mk (below_step (by repeat (first | (with_reducible first | exact HB.out | apply below_alloc | apply pw_below_drewN | apply below_drew1) | exact HB.out)) hb); clear HB; have HB := n0_; clear n0_; (try clear hb); (try clear hb2); (try clear hk); (try clear hi)))
                      go_meet
                      case rel => exact ⟨_, ((⟨#[64]⟩ : ByteArray) ++ t345), (by first | rfl | (simp; done) | (simp [*]; done)), H', ⟨by have := HJ3.out; first | omega | exact Nat.le_refl _⟩, ⟨by repeat (first | (with_reducible first | exact HB.out | apply below_alloc | apply pw_below_drewN | apply below_drew1) | exact HB.out)⟩⟩
                  · rw [if_neg c16] at H
                    exact absurd H (by simp)
                · rw [if_neg c14] at H
                  have c14b0 : (a0 == 2) = false := beq_eq_false_iff_ne.mpr c14
                  have c14b1 : (a0 != 2) = true := bne_iff_ne.mpr c14
                  have H' := Aside0.mk H
                  clear H
                  go_wp2
                  go_meet
                  case rel => exact ⟨_, ((⟨#[]⟩ : ByteArray)), (by first | rfl | (simp; done) | (simp [*]; done)), H', ⟨by have := HJ3.out; first | omega | exact Nat.le_refl _⟩, ⟨by repeat (first | (with_reducible first | exact HB.out | apply below_alloc | apply pw_below_drewN | apply below_drew1) | exact HB.out)⟩⟩
        case rest =>
          clear HC8
          try clear c1
          try clear c2
          try clear p2
          try clear c3
          try clear c5
          try clear c5b0
          try clear c5b1
          try clear c7
          try clear c9
          try clear c9b0
          try clear c9b1
          try clear c10
          try clear c10b0
          try clear c10b1
          try clear c11
          try clear c11b0
          try clear c11b1
          try clear c14
          try clear c14b0
          try clear c14b1
          try clear c16
          try clear c16b0
          try clear c16b1
          try clear c16b2
          try clear c17
          try clear c17b0
          try clear c17b1
          try clear c18
          try clear c18b0
          try clear c18b1
          try clear c18b2
          try clear c20
          try clear c20b0
          try clear c20b1
          try clear c20b2
          try clear c21
          try clear c21b0
          try clear c21b1
          try clear c21b2
          try clear p2
          obtain ⟨kq, x8_7, rfl, HA, HJ7, HB⟩ := hcut
          cases kq with
          | zero => exact absurd HA.out (by simp [sleuthref1_Make.j1])
          | succ kj7 =>
            have H := HA.out
            clear HA
            simp only [sleuthref1_Make.j1] at H
            replace H := Option.bind_eq_some_iff.mp H
            obtain ⟨⟨t347, t348, t349, t350⟩, A240, H⟩ := H
            replace H : (if t350 = 0 then (if t347 = a0 then (if t348 = a1 then ((sleuthref1_same.f kj7 t349 l2).bind fun t353 => (if t353 = true then (some (x8_7, 0)) else (some ((⟨#[]⟩ : ByteArray), 200)))) else (some ((⟨#[]⟩ : ByteArray), 200))) else (some ((⟨#[]⟩ : ByteArray), 200))) else (some ((⟨#[]⟩ : ByteArray), 200))) = some (r1, r2) := H
            have A24 := Aside0.mk A240
            clear A240
            by_cases c25 : t350 = 0
            · rw [if_pos c25] at H
              have c25b0 : (t350 == 0) = true := beq_iff_eq.mpr c25
              have c25b1 : (t350 != 0) = false := bne_eq_false_iff_eq.mpr c25
              clear c25
              by_cases c26 : t347 = a0
              · rw [if_pos c26] at H
                have c26b0 : (t347 == a0) = true := beq_iff_eq.mpr c26
                have c26b1 : (t347 != a0) = false := bne_eq_false_iff_eq.mpr c26
                clear c26
                by_cases c27 : t348 = a1
                · rw [if_pos c27] at H
                  have c27b0 : (t348 == a1) = true := beq_iff_eq.mpr c27
                  have c27b1 : (t348 != a1) = false := bne_eq_false_iff_eq.mpr c27
                  clear c27
                  replace H := Option.bind_eq_some_iff.mp H
                  obtain ⟨t353, A280, H⟩ := H
                  replace H : (if t353 = true then (some (x8_7, 0)) else (some ((⟨#[]⟩ : ByteArray), 200))) = some (r1, r2) := H
                  have A28 := Aside0.mk A280
                  clear A280
                  by_cases c29 : t353 = true
                  · subst c29
                    have H1 : (some (x8_7, 0)) = some (r1, r2) := by rw [if_pos rfl] at H; exact H
                    clear H
                    have H := H1
                    clear H1
                    simp only [Option.some.injEq, Prod.mk.injEq] at H
                    obtain ⟨rfl, rfl⟩ := H
                    go_wp2_with (first | ((with_reducible refine gate_callee (f := 31) rfl ?_); refine goesL_ (some 46) rfl rfl Tryd.func31 (by kernel_rfl) rfl #[.string x8_7] rfl (by (try simp only [List.map_toArray, List.map_cons, List.map_nil]); first | done | rfl | (simp only [List.length_drop, List.length_take]; rfl)) ?_; (with_reducible refine (sleuthref1_Cut.calls kj7 x8_7 t347 t348 t349 t350 _ A24.out).mono ?_); rintro e w30 ⟨v351, rfl, ho0, hb⟩; refine ⟨_, rfl, ?_⟩; have n0_ := Aside0.mk (Kd.R_lower ho0 (below_size (by repeat (first | (with_reducible first | exact HB.out | apply below_alloc | apply pw_below_drewN | apply below_drew1) | exact HB.out)))); have n1_ := Aside0.mk (below_step (by repeat (first | (with_reducible first | exact HB.out | apply below_alloc | apply pw_below_drewN | apply below_drew1) | exact HB.out)) hb); clear HB; have HO352 := n0_; have HB := n1_; clear n0_ n1_; (try clear hb); (try clear hb2); (try clear hk); (try clear hi); (try clear ho0); obtain ⟨Ao31, co31, eo31⟩ := Kd.R_slice HO352.out; subst eo31) | (go_at_call 35; (with_reducible refine (sleuthref1_same.calls kj7 _ _ t349 _ _ l2 true _ ?side1 ?side2 ?side3 ?side4 A28.out).mono ?_); (case side1 => repeat (first | exact (Kd.R_reads' HO352.out).2.2 | (with_reducible refine Kd.C_alloc ?_ _) | (with_reducible refine Kd.C_drewN ?_ _) | (with_reducible refine Kd.C_drew ?_))); (case side2 => exact (Kd.R_reads' HO352.out).2.1); (case side3 => repeat (first | exact (Kd.C_below HR2.out HB.out) | (with_reducible refine Kd.C_alloc ?_ _) | (with_reducible refine Kd.C_drewN ?_ _) | (with_reducible refine Kd.C_drew ?_))); (case side4 => exact HC2.out); rintro e w' ⟨rfl, ⟨nd, rfl⟩⟩))
                    go_ret2
                    exact ⟨by first | rfl | (simp [errW_none, errW_some] <;> rfl) | (simp [*, errW_none, errW_some] <;> rfl), by repeat (first | (with_reducible first | exact HB.out | apply below_alloc | apply pw_below_drewN | apply below_drew1) | exact HB.out)⟩
                  · replace c29 := Bool.eq_false_iff.mpr c29
                    subst c29
                    have H1 : (some ((⟨#[]⟩ : ByteArray), 200)) = some (r1, r2) := by rw [if_neg (show ¬ (false = true) by decide)] at H; exact H
                    clear H
                    have H := H1
                    clear H1
                    simp only [Option.some.injEq, Prod.mk.injEq] at H
                    obtain ⟨rfl, rfl⟩ := H
                    go_wp2_with (first | ((with_reducible refine gate_callee (f := 31) rfl ?_); refine goesL_ (some 46) rfl rfl Tryd.func31 (by kernel_rfl) rfl #[.string x8_7] rfl (by (try simp only [List.map_toArray, List.map_cons, List.map_nil]); first | done | rfl | (simp only [List.length_drop, List.length_take]; rfl)) ?_; (with_reducible refine (sleuthref1_Cut.calls kj7 x8_7 t347 t348 t349 t350 _ A24.out).mono ?_); rintro e w32 ⟨v351, rfl, ho0, hb⟩; refine ⟨_, rfl, ?_⟩; have n0_ := Aside0.mk (Kd.R_lower ho0 (below_size (by repeat (first | (with_reducible first | exact HB.out | apply below_alloc | apply pw_below_drewN | apply below_drew1) | exact HB.out)))); have n1_ := Aside0.mk (below_step (by repeat (first | (with_reducible first | exact HB.out | apply below_alloc | apply pw_below_drewN | apply below_drew1) | exact HB.out)) hb); clear HB; have HO352 := n0_; have HB := n1_; clear n0_ n1_; (try clear hb); (try clear hb2); (try clear hk); (try clear hi); (try clear ho0); obtain ⟨Ao33, co33, eo33⟩ := Kd.R_slice HO352.out; subst eo33) | (go_at_call 35; (with_reducible refine (sleuthref1_same.calls kj7 _ _ t349 _ _ l2 false _ ?side1 ?side2 ?side3 ?side4 A28.out).mono ?_); (case side1 => repeat (first | exact (Kd.R_reads' HO352.out).2.2 | (with_reducible refine Kd.C_alloc ?_ _) | (with_reducible refine Kd.C_drewN ?_ _) | (with_reducible refine Kd.C_drew ?_))); (case side2 => exact (Kd.R_reads' HO352.out).2.1); (case side3 => repeat (first | exact (Kd.C_below HR2.out HB.out) | (with_reducible refine Kd.C_alloc ?_ _) | (with_reducible refine Kd.C_drewN ?_ _) | (with_reducible refine Kd.C_drew ?_))); (case side4 => exact HC2.out); rintro e w' ⟨rfl, ⟨nd, rfl⟩⟩))
                    go_ret2
                    exact ⟨by first | rfl | (simp [errW_none, errW_some] <;> rfl) | (simp [*, errW_none, errW_some] <;> rfl), by repeat (first | (with_reducible first | exact HB.out | apply below_alloc | apply pw_below_drewN | apply below_drew1) | exact HB.out)⟩
                · rw [if_neg c27] at H
                  have c27b0 : (t348 == a1) = false := beq_eq_false_iff_ne.mpr c27
                  have c27b1 : (t348 != a1) = true := bne_iff_ne.mpr c27
                  simp only [Option.some.injEq, Prod.mk.injEq] at H
                  obtain ⟨rfl, rfl⟩ := H
                  go_wp2_with (first | ((with_reducible refine gate_callee (f := 31) rfl ?_); refine goesL_ (some 46) rfl rfl Tryd.func31 (by kernel_rfl) rfl #[.string x8_7] rfl (by (try simp only [List.map_toArray, List.map_cons, List.map_nil]); first | done | rfl | (simp only [List.length_drop, List.length_take]; rfl)) ?_; (with_reducible refine (sleuthref1_Cut.calls kj7 x8_7 t347 t348 t349 t350 _ A24.out).mono ?_); rintro e w34 ⟨v351, rfl, ho0, hb⟩; refine ⟨_, rfl, ?_⟩; have n0_ := Aside0.mk (Kd.R_lower ho0 (below_size (by repeat (first | (with_reducible first | exact HB.out | apply below_alloc | apply pw_below_drewN | apply below_drew1) | exact HB.out)))); have n1_ := Aside0.mk (below_step (by repeat (first | (with_reducible first | exact HB.out | apply below_alloc | apply pw_below_drewN | apply below_drew1) | exact HB.out)) hb); clear HB; have HO352 := n0_; have HB := n1_; clear n0_ n1_; (try clear hb); (try clear hb2); (try clear hk); (try clear hi); (try clear ho0)))
                  go_ret2
                  exact ⟨by first | rfl | (simp [errW_none, errW_some] <;> rfl) | (simp [*, errW_none, errW_some] <;> rfl), by repeat (first | (with_reducible first | exact HB.out | apply below_alloc | apply pw_below_drewN | apply below_drew1) | exact HB.out)⟩
              · rw [if_neg c26] at H
                have c26b0 : (t347 == a0) = false := beq_eq_false_iff_ne.mpr c26
                have c26b1 : (t347 != a0) = true := bne_iff_ne.mpr c26
                simp only [Option.some.injEq, Prod.mk.injEq] at H
                obtain ⟨rfl, rfl⟩ := H
                go_wp2_with (first | ((with_reducible refine gate_callee (f := 31) rfl ?_); refine goesL_ (some 46) rfl rfl Tryd.func31 (by kernel_rfl) rfl #[.string x8_7] rfl (by (try simp only [List.map_toArray, List.map_cons, List.map_nil]); first | done | rfl | (simp only [List.length_drop, List.length_take]; rfl)) ?_; (with_reducible refine (sleuthref1_Cut.calls kj7 x8_7 t347 t348 t349 t350 _ A24.out).mono ?_); rintro e w35 ⟨v351, rfl, ho0, hb⟩; refine ⟨_, rfl, ?_⟩; have n0_ := Aside0.mk (Kd.R_lower ho0 (below_size (by repeat (first | (with_reducible first | exact HB.out | apply below_alloc | apply pw_below_drewN | apply below_drew1) | exact HB.out)))); have n1_ := Aside0.mk (below_step (by repeat (first | (with_reducible first | exact HB.out | apply below_alloc | apply pw_below_drewN | apply below_drew1) | exact HB.out)) hb); clear HB; have HO352 := n0_; have HB := n1_; clear n0_ n1_; (try clear hb); (try clear hb2); (try clear hk); (try clear hi); (try clear ho0)))
                go_ret2
                exact ⟨by first | rfl | (simp [errW_none, errW_some] <;> rfl) | (simp [*, errW_none, errW_some] <;> rfl), by repeat (first | (with_reducible first | exact HB.out | apply below_alloc | apply pw_below_drewN | apply below_drew1) | exact HB.out)⟩
            · rw [if_neg c25] at H
              have c25b0 : (t350 == 0) = false := beq_eq_false_iff_ne.mpr c25
              have c25b1 : (t350 != 0) = true := bne_iff_ne.mpr c25
              simp only [Option.some.injEq, Prod.mk.injEq] at H
              obtain ⟨rfl, rfl⟩ := H
              go_wp2_with (first | ((with_reducible refine gate_callee (f := 31) rfl ?_); refine goesL_ (some 46) rfl rfl Tryd.func31 (by kernel_rfl) rfl #[.string x8_7] rfl (by (try simp only [List.map_toArray, List.map_cons, List.map_nil]); first | done | rfl | (simp only [List.length_drop, List.length_take]; rfl)) ?_; (with_reducible refine (sleuthref1_Cut.calls kj7 x8_7 t347 t348 t349 t350 _ A24.out).mono ?_); rintro e w36 ⟨v351, rfl, ho0, hb⟩; refine ⟨_, rfl, ?_⟩; have n0_ := Aside0.mk (Kd.R_lower ho0 (below_size (by repeat (first | (with_reducible first | exact HB.out | apply below_alloc | apply pw_below_drewN | apply below_drew1) | exact HB.out)))); have n1_ := Aside0.mk (below_step (by repeat (first | (with_reducible first | exact HB.out | apply below_alloc | apply pw_below_drewN | apply below_drew1) | exact HB.out)) hb); clear HB; have HO352 := n0_; have HB := n1_; clear n0_ n1_; (try clear hb); (try clear hb2); (try clear hk); (try clear hi); (try clear ho0)))
              go_ret2
              exact ⟨by first | rfl | (simp [errW_none, errW_some] <;> rfl) | (simp [*, errW_none, errW_some] <;> rfl), by repeat (first | (with_reducible first | exact HB.out | apply below_alloc | apply pw_below_drewN | apply below_drew1) | exact HB.out)⟩

end Go.Proofs.YtnoehmpmkfkgfaaDoor.G
