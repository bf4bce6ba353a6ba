/- Parts of this proof, one behind the other: G9, G10. -/
import Derived.Test.YtgcdbpnflchobaaDoorBase
import Derived.Test.YtgcdbpnflchobaaDoorGA
section
-- Laid by the session's own driver gp.py over the kit's printer. Not trusted: Lean checks it.
namespace Go.Proofs.YtgcdbpnflchobaaDoor.G
open Go.RowKit Go.Proofs.YtgcdbpnflchobaaDoorW.PrintWords Go.Proofs.YtgcdbpnflchobaaDoorW.PrintLast Go.Proofs.YtgcdbpnflchobaaDoorW.PrintMore
attribute [local go_sem] max2_int min2_int max_two min_two max_three min_three max_four min_four   -- for this text's walks alone
set_option linter.unusedVariables false
set_option linter.unusedSimpArgs false

/-! ### term_cut: function 57 -/
mutual
def term_cut.j0 : Nat → ByteArray → Int → Bool → Bool → Option (Int × Int × List ByteArray × ByteArray × Bool)
  | 0, _, _, _, _ => none
  | k + 1, x8, x11, x12, x52 => if x52 = true then (some (2, x11, ([] : List ByteArray), x8, x12)) else (term_cut.l0 k x8 x11 ([] : List ByteArray))
def term_cut.l0 : Nat → ByteArray → Int → List ByteArray → Option (Int × Int × List ByteArray × ByteArray × Bool)
  | 0, _, _, _ => none
  | k + 1, x8, x11, x13 => if (x13.length : Int) < 3 then (if 1 ≤ (x8.size : Int) then ((term_cut.f k (x8.extract 1 x8.size)).bind fun bt126 => (if bt126.2.2.2.2 = true then (if 0 ≤ (wrap64 (((x8.extract 1 x8.size).size : Int) - (bt126.2.2.2.1.size : Int))) then (if (wrap64 (((x8.extract 1 x8.size).size : Int) - (bt126.2.2.2.1.size : Int))) ≤ ((x8.extract 1 x8.size).size : Int) then (if x13.length < 8796093022208 then ((some (x13 ++ [(x8.extract 1 x8.size).extract 0 ((wrap64 (((x8.extract 1 x8.size).size : Int) - (bt126.2.2.2.1.size : Int))) : Int).toNat] : List ByteArray)).bind fun y133 => ((strings_HasPrefix.f bt126.2.2.2.1 (⟨#[32]⟩ : ByteArray)).bind fun t136 => (if t136 = true then (term_cut.l0 k bt126.2.2.2.1 x11 y133) else ((strings_CutPrefix.f bt126.2.2.2.1 (⟨#[41]⟩ : ByteArray)).bind fun bt137 => (some (2, x11, y133, bt137.1, bt137.2)))))) else (none)) else (none)) else (none)) else (some (0, 0, ([] : List ByteArray), (⟨#[]⟩ : ByteArray), false)))) else (none)) else ((strings_CutPrefix.f x8 (⟨#[41]⟩ : ByteArray)).bind fun bt124 => (some (2, x11, x13, bt124.1, bt124.2)))
def term_cut.f : Nat → ByteArray → Option (Int × Int × List ByteArray × ByteArray × Bool)
  | 0, _ => none
  | k + 1, a0 => (term_word.f a0).bind fun bt117 => (if bt117.1.toList = ([95] : List UInt8) then (some (0, 0, ([] : List ByteArray), bt117.2, true)) else (if bt117.1.toList = ([33] : List UInt8) then (some (3, 0, ([] : List ByteArray), bt117.2, true)) else ((term_Number.f bt117.1).bind fun bt119 => (if bt119.2 = true then (some (1, bt119.1, ([] : List ByteArray), bt117.2, true)) else ((term_Tag.f bt117.1).bind fun bt121 => (if bt121.2 = true then ((strings_HasPrefix.f bt117.2 (⟨#[40]⟩ : ByteArray)).bind fun t123 => (term_cut.j0 k bt117.2 bt121.1 bt121.2 (!t123))) else (term_cut.j0 k bt117.2 bt121.1 bt121.2 true)))))))
end
theorem term_cut.mono_l : ∀ k, (∀ y0, LeO (term_cut.f k y0) (term_cut.f (k + 1) y0)) ∧ (∀ y0 y1 y2 y3, LeO (term_cut.j0 k y0 y1 y2 y3) (term_cut.j0 (k + 1) y0 y1 y2 y3)) ∧ (∀ y0 y1 y2, LeO (term_cut.l0 k y0 y1 y2) (term_cut.l0 (k + 1) y0 y1 y2))
  | 0 => ⟨fun _ r h => by simp [term_cut.f] at h, fun _ _ _ _ r h => by simp [term_cut.j0] at h, fun _ _ _ r h => by simp [term_cut.l0] at h⟩
  | k + 1 => by
    obtain ⟨ih0, ih1, ih2⟩ := term_cut.mono_l k
    refine ⟨?_, ?_, ?_⟩
    · intro y0
      unfold term_cut.f
      repeat' first
      | (with_reducible exact ih0 _)
      | (with_reducible exact ih1 _ _ _ _)
      | (with_reducible exact ih2 _ _ _)
      | (with_reducible exact LeO.refl _)
      | (with_reducible exact LeO.none _)
      | (with_reducible refine LeO.ite ?_ ?_)
      | (with_reducible refine LeO.bind ?_ (fun _ => ?_))
      | exact ih0 _
      | exact ih1 _ _ _ _
      | exact ih2 _ _ _
      | exact LeO.none _
      | refine LeO.ite ?_ ?_
      | refine LeO.bind ?_ (fun _ => ?_)
    · intro y0 y1 y2 y3
      unfold term_cut.j0
      repeat' first
      | (with_reducible exact ih0 _)
      | (with_reducible exact ih1 _ _ _ _)
      | (with_reducible exact ih2 _ _ _)
      | (with_reducible exact LeO.refl _)
      | (with_reducible exact LeO.none _)
      | (with_reducible refine LeO.ite ?_ ?_)
      | (with_reducible refine LeO.bind ?_ (fun _ => ?_))
      | exact ih0 _
      | exact ih1 _ _ _ _
      | exact ih2 _ _ _
      | exact LeO.none _
      | refine LeO.ite ?_ ?_
      | refine LeO.bind ?_ (fun _ => ?_)
    · intro y0 y1 y2
      unfold term_cut.l0
      repeat' first
      | (with_reducible exact ih0 _)
      | (with_reducible exact ih1 _ _ _ _)
      | (with_reducible exact ih2 _ _ _)
      | (with_reducible exact LeO.refl _)
      | (with_reducible exact LeO.none _)
      | (with_reducible refine LeO.ite ?_ ?_)
      | (with_reducible refine LeO.bind ?_ (fun _ => ?_))
      | exact ih0 _
      | exact ih1 _ _ _ _
      | exact ih2 _ _ _
      | exact LeO.none _
      | refine LeO.ite ?_ ?_
      | refine LeO.bind ?_ (fun _ => ?_)
theorem term_cut.mono : ∀ a0 k, LeO (term_cut.f k a0) (term_cut.f (k + 1) a0) := by
  intro a0 k
  obtain ⟨ih0, ih1, ih2⟩ := term_cut.mono_l k
  exact ih0 a0
set_option maxHeartbeats 8000000 in
set_option maxRecDepth 100000 in
theorem term_cut.calls (k : Nat) : ∀ (a0 : ByteArray) (r1 : Int) (r2 : Int) (r3 : List ByteArray) (r4 : ByteArray) (r5 : Bool) (w : World) (h : term_cut.f k a0 = some (r1, r2, r3, r4, r5)) (hG : GOK w),
    Calls Tryd.prog 57 #[.string a0] w fun e w' => ∃ v2_ : Value, e = .returned (.tuple #[.int .i64 r1, .int .i64 r2, v2_, .string r4, .bool r5]) ∧ Kd.R Kd.string 9 w' w.heap.size (fun _ => True) v2_ r3 ∧ Below w.heap.size w w' := by
  induction k using Nat.strongRecOn with
  | _ k ih =>
  intro a0 r1 r2 r3 r4 r5 w h hG
  cases k with
  | zero => exact absurd h (by simp [term_cut.f])
  | succ k =>
  simp only [term_cut.f] at h
  have HB := Aside0.mk (Below.refl w.heap.size w)
  have H : ((term_word.f a0).bind fun bt117 => (if bt117.1.toList = ([95] : List UInt8) then (some (0, 0, ([] : List ByteArray), bt117.2, true)) else (if bt117.1.toList = ([33] : List UInt8) then (some (3, 0, ([] : List ByteArray), bt117.2, true)) else ((term_Number.f bt117.1).bind fun bt119 => (if bt119.2 = true then (some (1, bt119.1, ([] : List ByteArray), bt117.2, true)) else ((term_Tag.f bt117.1).bind fun bt121 => (if bt121.2 = true then ((strings_HasPrefix.f bt117.2 (⟨#[40]⟩ : ByteArray)).bind fun t123 => (term_cut.j0 k bt117.2 bt121.1 bt121.2 (!t123))) else (term_cut.j0 k bt117.2 bt121.1 bt121.2 true)))))))) = some (r1, r2, r3, r4, r5) := h
  clear h
  replace H := Option.bind_eq_some_iff.mp H
  obtain ⟨⟨t117, t118⟩, A20, H⟩ := H
  replace H : (if t117.toList = ([95] : List UInt8) then (some (0, 0, ([] : List ByteArray), t118, true)) else (if t117.toList = ([33] : List UInt8) then (some (3, 0, ([] : List ByteArray), t118, true)) else ((term_Number.f t117).bind fun bt119 => (if bt119.2 = true then (some (1, bt119.1, ([] : List ByteArray), t118, true)) else ((term_Tag.f t117).bind fun bt121 => (if bt121.2 = true then ((strings_HasPrefix.f t118 (⟨#[40]⟩ : ByteArray)).bind fun t123 => (term_cut.j0 k t118 bt121.1 bt121.2 (!t123))) else (term_cut.j0 k t118 bt121.1 bt121.2 true))))))) = some (r1, r2, r3, r4, r5) := H
  have A2 := Aside0.mk A20
  clear A20
  by_cases c3 : t117.toList = ([95] : List UInt8)
  · rw [if_pos c3] at H
    have c3b0 : (t117.toList == ([95] : List UInt8)) = true := beq_iff_eq.mpr c3
    have c3b1 : (t117.toList != ([95] : List UInt8)) = false := bne_eq_false_iff_eq.mpr c3
    clear c3
    simp only [Option.some.injEq, Prod.mk.injEq] at H
    obtain ⟨rfl, rfl, rfl, rfl, rfl⟩ := H
    go_enter Tryd.func57, Tryd.ntmps57
    go_wp2_with (first | ((with_reducible refine gate_callee (f := 62) rfl ?_); refine goesL_ (some 24) rfl rfl Tryd.func62 (by kernel_rfl) rfl #[.string a0] rfl hL_ ?_; (with_reducible refine (term_word.calls a0 t117 t118 _ A2.out).mono ?_); rintro e w4 ⟨rfl, hb⟩; refine ⟨_, rfl, ?_⟩; have n0_ := Aside0.mk (below_step hB_ hb); clear HB; have HB := n0_; clear n0_; (try clear hb); (try clear hb2); (try clear hk); (try clear hi)))
    refine bodyPost_ret (results_list (rs := [.tmp 2, .tmp 3, .tmp 4, .tmp 5, .tmp 6]) rfl (by simp) (.tmp (.tmp (.tmp (.tmp (.tmp .nil)))))) rfl ?_
    exact ⟨_, by first | rfl | (simp [errW_none, errW_some] <;> rfl) | (simp [*, errW_none, errW_some] <;> rfl), by first | exact Kd.R_nil _ _ _ _ _ | exact Kd.N_nil _ _ _ _ _ | exact Kd.V_nil _ _ _ _ _ | exact Kd.Q_nil _ _ _ _ _ | exact Kd.S_nil _ _ _ _ _, by repeat (first | (with_reducible first | exact HB.out | apply below_alloc | apply pw_below_drewN | apply below_drew1) | exact HB.out)⟩
  · rw [if_neg c3] at H
    have c3b0 : (t117.toList == ([95] : List UInt8)) = false := beq_eq_false_iff_ne.mpr c3
    have c3b1 : (t117.toList != ([95] : List UInt8)) = true := bne_iff_ne.mpr c3
    by_cases c5 : t117.toList = ([33] : List UInt8)
    · rw [if_pos c5] at H
      have c5b0 : (t117.toList == ([33] : List UInt8)) = true := beq_iff_eq.mpr c5
      have c5b1 : (t117.toList != ([33] : List UInt8)) = false := bne_eq_false_iff_eq.mpr c5
      clear c5
      simp only [Option.some.injEq, Prod.mk.injEq] at H
      obtain ⟨rfl, rfl, rfl, rfl, rfl⟩ := H
      go_enter Tryd.func57, Tryd.ntmps57
      go_wp2_with (first | ((with_reducible refine gate_callee (f := 62) rfl ?_); refine goesL_ (some 24) rfl rfl Tryd.func62 (by kernel_rfl) rfl #[.string a0] rfl hL_ ?_; (with_reducible refine (term_word.calls a0 t117 t118 _ A2.out).mono ?_); rintro e w6 ⟨rfl, hb⟩; refine ⟨_, rfl, ?_⟩; have n0_ := Aside0.mk (below_step hB_ hb); clear HB; have HB := n0_; clear n0_; (try clear hb); (try clear hb2); (try clear hk); (try clear hi)))
      refine bodyPost_ret (results_list (rs := [.tmp 2, .tmp 3, .tmp 4, .tmp 5, .tmp 6]) rfl (by simp) (.tmp (.tmp (.tmp (.tmp (.tmp .nil)))))) rfl ?_
      exact ⟨_, by first | rfl | (simp [errW_none, errW_some] <;> rfl) | (simp [*, errW_none, errW_some] <;> rfl), by first | exact Kd.R_nil _ _ _ _ _ | exact Kd.N_nil _ _ _ _ _ | exact Kd.V_nil _ _ _ _ _ | exact Kd.Q_nil _ _ _ _ _ | exact Kd.S_nil _ _ _ _ _, by repeat (first | (with_reducible first | exact HB.out | apply below_alloc | apply pw_below_drewN | apply below_drew1) | exact HB.out)⟩
    · rw [if_neg c5] at H
      have c5b0 : (t117.toList == ([33] : List UInt8)) = false := beq_eq_false_iff_ne.mpr c5
      have c5b1 : (t117.toList != ([33] : List UInt8)) = true := bne_iff_ne.mpr c5
      replace H := Option.bind_eq_some_iff.mp H
      obtain ⟨⟨t119, t120⟩, A70, H⟩ := H
      replace H : (if t120 = true then (some (1, t119, ([] : List ByteArray), t118, true)) else ((term_Tag.f t117).bind fun bt121 => (if bt121.2 = true then ((strings_HasPrefix.f t118 (⟨#[40]⟩ : ByteArray)).bind fun t123 => (term_cut.j0 k t118 bt121.1 bt121.2 (!t123))) else (term_cut.j0 k t118 bt121.1 bt121.2 true)))) = some (r1, r2, r3, r4, r5) := H
      have A7 := Aside0.mk A70
      clear A70
      by_cases c8 : t120 = true
      · subst c8
        have H1 : (some (1, t119, ([] : List ByteArray), t118, true)) = some (r1, r2, r3, r4, r5) := by rw [if_pos rfl] at H; exact H
        clear H
        have H := H1
        clear H1
        simp only [Option.some.injEq, Prod.mk.injEq] at H
        obtain ⟨rfl, rfl, rfl, rfl, rfl⟩ := H
        go_enter Tryd.func57, Tryd.ntmps57
        go_wp2_with (first | ((with_reducible refine gate_callee (f := 62) rfl ?_); refine goesL_ (some 24) rfl rfl Tryd.func62 (by kernel_rfl) rfl #[.string a0] rfl hL_ ?_; (with_reducible refine (term_word.calls a0 t117 t118 _ A2.out).mono ?_); rintro e w9 ⟨rfl, hb⟩; refine ⟨_, rfl, ?_⟩; have n0_ := Aside0.mk (below_step hB_ hb); clear HB; have HB := n0_; clear n0_; (try clear hb); (try clear hb2); (try clear hk); (try clear hi)) | ((with_reducible refine gate_callee (f := 63) rfl ?_); refine goesL_ (some 35) rfl rfl Tryd.func63 (by kernel_rfl) rfl #[.string t117] rfl hL_ ?_; (with_reducible refine (term_Number.calls t117 t119 true _ A7.out hG_).mono ?_); rintro e w10 ⟨rfl, hb⟩; refine ⟨_, rfl, ?_⟩; have n0_ := Aside0.mk (below_step hB_ hb); clear HB; have HB := n0_; clear n0_; (try clear hb); (try clear hb2); (try clear hk); (try clear hi)))
        refine bodyPost_ret (results_list (rs := [.tmp 2, .tmp 3, .tmp 4, .tmp 5, .tmp 6]) rfl (by simp) (.tmp (.tmp (.tmp (.tmp (.tmp .nil)))))) rfl ?_
        exact ⟨_, by first | rfl | (simp [errW_none, errW_some] <;> rfl) | (simp [*, errW_none, errW_some] <;> rfl), by first | exact Kd.R_nil _ _ _ _ _ | exact Kd.N_nil _ _ _ _ _ | exact Kd.V_nil _ _ _ _ _ | exact Kd.Q_nil _ _ _ _ _ | exact Kd.S_nil _ _ _ _ _, by repeat (first | (with_reducible first | exact HB.out | apply below_alloc | apply pw_below_drewN | apply below_drew1) | exact HB.out)⟩
      · replace c8 := Bool.eq_false_iff.mpr c8
        subst c8
        have H1 : ((term_Tag.f t117).bind fun bt121 => (if bt121.2 = true then ((strings_HasPrefix.f t118 (⟨#[40]⟩ : ByteArray)).bind fun t123 => (term_cut.j0 k t118 bt121.1 bt121.2 (!t123))) else (term_cut.j0 k t118 bt121.1 bt121.2 true))) = some (r1, r2, r3, r4, r5) := by rw [if_neg (show ¬ (false = true) by decide)] at H; exact H
        clear H
        have H := H1
        clear H1
        replace H := Option.bind_eq_some_iff.mp H
        obtain ⟨⟨t121, t122⟩, A110, H⟩ := H
        replace H : (if t122 = true then ((strings_HasPrefix.f t118 (⟨#[40]⟩ : ByteArray)).bind fun t123 => (term_cut.j0 k t118 t121 t122 (!t123))) else (term_cut.j0 k t118 t121 t122 true)) = some (r1, r2, r3, r4, r5) := H
        have A11 := Aside0.mk A110
        clear A110
        have HC12 := Aside0.mk H
        clear H
        go_enter Tryd.func57, Tryd.ntmps57
        go_upto_region 10 with (first | ((with_reducible refine gate_callee (f := 62) rfl ?_); refine goesL_ (some 24) rfl rfl Tryd.func62 (by kernel_rfl) rfl #[.string a0] rfl hL_ ?_; (with_reducible refine (term_word.calls a0 t117 t118 _ A2.out).mono ?_); rintro e w13 ⟨rfl, hb⟩; refine ⟨_, rfl, ?_⟩; have n0_ := Aside0.mk (below_step hB_ hb); clear HB; have HB := n0_; clear n0_; (try clear hb); (try clear hb2); (try clear hk); (try clear hi)) | ((with_reducible refine gate_callee (f := 63) rfl ?_); refine goesL_ (some 35) rfl rfl Tryd.func63 (by kernel_rfl) rfl #[.string t117] rfl hL_ ?_; (with_reducible refine (term_Number.calls t117 t119 false _ A7.out hG_).mono ?_); rintro e w14 ⟨rfl, hb⟩; refine ⟨_, rfl, ?_⟩; have n0_ := Aside0.mk (below_step hB_ hb); clear HB; have HB := n0_; clear n0_; (try clear hb); (try clear hb2); (try clear hk); (try clear hi)) | ((with_reducible refine gate_callee (f := 64) rfl ?_); refine goesL_ (some 43) rfl rfl Tryd.func64 (by kernel_rfl) rfl #[.string t117] rfl hL_ ?_; (with_reducible refine (term_Tag.calls t117 t121 t122 _ A11.out hG_).mono ?_); rintro e w15 ⟨rfl, hb⟩; refine ⟨_, rfl, ?_⟩; have n0_ := Aside0.mk (below_step hB_ hb); clear HB; have HB := n0_; clear n0_; (try clear hb); (try clear hb2); (try clear hk); (try clear hi)))
        (try simp only [Act.put, List.setIfInBounds_toArray, List.set_cons_zero, List.set_cons_succ])
        go_cut [52] (fun v52 wc => ∃ (kq : Nat) (x52_11 : Bool), v52 = .bool x52_11 ∧ Aside0 (term_cut.j0 kq t118 t121 t122 x52_11 = some (r1, r2, r3, r4, r5)) ∧ Aside0 (kq ≤ k) ∧ Aside0 (Below w.heap.size w wc))
        case first =>
          have H := HC12.out
          clear HC12
          by_cases c16 : t122 = true
          · subst c16
            have H1 : ((strings_HasPrefix.f t118 (⟨#[40]⟩ : ByteArray)).bind fun t123 => (term_cut.j0 k t118 t121 true (!t123))) = some (r1, r2, r3, r4, r5) := by rw [if_pos rfl] at H; exact H
            clear H
            have H := H1
            clear H1
            replace H := Option.bind_eq_some_iff.mp H
            obtain ⟨t123, A170, H⟩ := H
            replace H : (term_cut.j0 k t118 t121 true (!t123)) = some (r1, r2, r3, r4, r5) := H
            have A17 := Aside0.mk A170
            clear A170
            have H' := Aside0.mk H
            clear H
            go_wp2_with (first | (go_at_call 65; (with_reducible refine (strings_HasPrefix.calls t118 (⟨#[40]⟩ : ByteArray) t123 _ A17.out).mono ?_); rintro e w' ⟨rfl, ⟨nd, rfl⟩⟩))
            go_meet
            case rel => exact ⟨_, (!t123), (by first | rfl | (simp; done) | (simp [*]; done)), H', ⟨by first | omega | exact Nat.le_refl _⟩, ⟨by repeat (first | (with_reducible first | exact HB.out | apply below_alloc | apply pw_below_drewN | apply below_drew1) | exact HB.out)⟩⟩
          · replace c16 := Bool.eq_false_iff.mpr c16
            subst c16
            have H1 : (term_cut.j0 k t118 t121 false true) = some (r1, r2, r3, r4, r5) := by rw [if_neg (show ¬ (false = true) by decide)] at H; exact H
            clear H
            have H := H1
            clear H1
            have H' := Aside0.mk H
            clear H
            go_wp2
            go_meet
            case rel => exact ⟨_, (true), (by first | rfl | (simp; done) | (simp [*]; done)), H', ⟨by first | omega | exact Nat.le_refl _⟩, ⟨by repeat (first | (with_reducible first | exact HB.out | apply below_alloc | apply pw_below_drewN | apply below_drew1) | exact HB.out)⟩⟩
        case rest =>
          clear HC12
          try clear c1
          try clear p2
          try clear c3
          try clear c3b0
          try clear c3b1
          try clear c5
          try clear c5b0
          try clear c5b1
          try clear c6
          try clear c8
          try clear c16
          obtain ⟨kq, x52_11, rfl, HA, HJ11, HB⟩ := hcut
          cases kq with
          | zero => exact absurd HA.out (by simp [term_cut.j0])
          | succ kj11 =>
            have H := HA.out
            clear HA
            simp only [term_cut.j0] at H
            by_cases c18 : x52_11 = true
            · subst c18
              have H1 : (some (2, t121, ([] : List ByteArray), t118, t122)) = some (r1, r2, r3, r4, r5) := by rw [if_pos rfl] at H; exact H
              clear H
              have H := H1
              clear H1
              simp only [Option.some.injEq, Prod.mk.injEq] at H
              obtain ⟨rfl, rfl, rfl, rfl, rfl⟩ := H
              go_wp2
              refine bodyPost_ret (results_list (rs := [.tmp 2, .tmp 3, .tmp 4, .tmp 5, .tmp 6]) rfl (by simp) (.tmp (.tmp (.tmp (.tmp (.tmp .nil)))))) rfl ?_
              exact ⟨_, by first | rfl | (simp [errW_none, errW_some] <;> rfl) | (simp [*, errW_none, errW_some] <;> rfl), by first | exact Kd.R_nil _ _ _ _ _ | exact Kd.N_nil _ _ _ _ _ | exact Kd.V_nil _ _ _ _ _ | exact Kd.Q_nil _ _ _ _ _ | exact Kd.S_nil _ _ _ _ _, by repeat (first | (with_reducible first | exact HB.out | apply below_alloc | apply pw_below_drewN | apply below_drew1) | exact HB.out)⟩
            · replace c18 := Bool.eq_false_iff.mpr c18
              subst c18
              have H1 : (term_cut.l0 kj11 t118 t121 ([] : List ByteArray)) = some (r1, r2, r3, r4, r5) := by rw [if_neg (show ¬ (false = true) by decide)] at H; exact H
              clear H
              have H := H1
              clear H1
              have H' := Aside0.mk H
              clear H
              go_wp2
              go_loopg [8, 13] kj11 (fun kq v8 v13 w' => ∃ (x8_2 : ByteArray) (x13_2 : List ByteArray), v8 = .string x8_2 ∧ Aside0 (term_cut.l0 kq x8_2 t121 x13_2 = some (r1, r2, r3, r4, r5)) ∧ Aside0 (kq ≤ kj11) ∧ Aside0 (Kd.R Kd.string 9 w' w.heap.size (fun _ => True) v13 x13_2) ∧ Aside0 (Below w.heap.size w w'))
              case atStart => exact ⟨(t118), (([] : List ByteArray)), (by first | rfl | (simp; done) | (simp [*]; done)), H', ⟨Nat.le_refl _⟩, ⟨by first | exact Kd.R_nil _ _ _ _ _ | exact Kd.N_nil _ _ _ _ _ | exact Kd.V_nil _ _ _ _ _ | exact Kd.Q_nil _ _ _ _ _ | exact Kd.S_nil _ _ _ _ _⟩, ⟨by repeat (first | (with_reducible first | exact HB.out | apply below_alloc | apply pw_below_drewN | apply below_drew1) | exact HB.out)⟩⟩
              case round =>
                clear H'
                try clear c1
                try clear p2
                try clear c3
                try clear c3b0
                try clear c3b1
                try clear c5
                try clear c5b0
                try clear c5b1
                try clear c6
                try clear c8
                try clear c16
                try clear c18
                try clear p2
                obtain ⟨x8_2, x13_2, rfl, HA, HK2, HO_13, HB⟩ := hrel
                cases gk with
                | zero => exact absurd HA.out (by simp [term_cut.l0])
                | succ k2 =>
                  have H := HA.out
                  clear HA
                  simp only [term_cut.l0] at H
                  by_cases c19 : (x13_2.length : Int) < 3
                  · rw [if_pos c19] at H
                    have c19b0 : decide ((x13_2.length : Int) < 3) = true := decide_eq_true c19
                    have c19b1 : decide (x13_2.length < 3) = true := decide_eq_true (by omega)
                    clear c19
                    by_cases c20 : 1 ≤ (x8_2.size : Int)
                    · rw [if_pos c20] at H
                      have c20b0 := eq_true c20
                      have c20b1 : decide (1 ≤ (x8_2.size : Int)) = true := decide_eq_true c20
                      clear c20
                      replace H := Option.bind_eq_some_iff.mp H
                      obtain ⟨⟨t126, t127, t128, t129, t130⟩, A210, H⟩ := H
                      replace H : (if t130 = true then (if 0 ≤ (wrap64 (((x8_2.extract 1 x8_2.size).size : Int) - (t129.size : Int))) then (if (wrap64 (((x8_2.extract 1 x8_2.size).size : Int) - (t129.size : Int))) ≤ ((x8_2.extract 1 x8_2.size).size : Int) then (if x13_2.length < 8796093022208 then ((some (x13_2 ++ [(x8_2.extract 1 x8_2.size).extract 0 ((wrap64 (((x8_2.extract 1 x8_2.size).size : Int) - (t129.size : Int))) : Int).toNat] : List ByteArray)).bind fun y133 => ((strings_HasPrefix.f t129 (⟨#[32]⟩ : ByteArray)).bind fun t136 => (if t136 = true then (term_cut.l0 k2 t129 t121 y133) else ((strings_CutPrefix.f t129 (⟨#[41]⟩ : ByteArray)).bind fun bt137 => (some (2, t121, y133, bt137.1, bt137.2)))))) else (none)) else (none)) else (none)) else (some (0, 0, ([] : List ByteArray), (⟨#[]⟩ : ByteArray), false))) = some (r1, r2, r3, r4, r5) := H
                      have A21 := Aside0.mk A210
                      clear A210
                      by_cases c22 : t130 = true
                      · subst c22
                        have H1 : (if 0 ≤ (wrap64 (((x8_2.extract 1 x8_2.size).size : Int) - (t129.size : Int))) then (if (wrap64 (((x8_2.extract 1 x8_2.size).size : Int) - (t129.size : Int))) ≤ ((x8_2.extract 1 x8_2.size).size : Int) then (if x13_2.length < 8796093022208 then ((some (x13_2 ++ [(x8_2.extract 1 x8_2.size).extract 0 ((wrap64 (((x8_2.extract 1 x8_2.size).size : Int) - (t129.size : Int))) : Int).toNat] : List ByteArray)).bind fun y133 => ((strings_HasPrefix.f t129 (⟨#[32]⟩ : ByteArray)).bind fun t136 => (if t136 = true then (term_cut.l0 k2 t129 t121 y133) else ((strings_CutPrefix.f t129 (⟨#[41]⟩ : ByteArray)).bind fun bt137 => (some (2, t121, y133, bt137.1, bt137.2)))))) else (none)) else (none)) else (none)) = some (r1, r2, r3, r4, r5) := by rw [if_pos rfl] at H; exact H
                        clear H
                        have H := H1
                        clear H1
                        obtain ⟨ji23, hji23⟩ : ∃ j_ : Int, (wrap64 (((x8_2.extract 1 x8_2.size).size : Int) - (t129.size : Int))) = j_ := ⟨_, rfl⟩
                        replace H : (if 0 ≤ (ji23) then (if (ji23) ≤ ((x8_2.extract 1 x8_2.size).size : Int) then (if x13_2.length < 8796093022208 then ((some (x13_2 ++ [(x8_2.extract 1 x8_2.size).extract 0 ((ji23) : Int).toNat] : List ByteArray)).bind fun y133 => ((strings_HasPrefix.f t129 (⟨#[32]⟩ : ByteArray)).bind fun t136 => (if t136 = true then (term_cut.l0 k2 t129 t121 y133) else ((strings_CutPrefix.f t129 (⟨#[41]⟩ : ByteArray)).bind fun bt137 => (some (2, t121, y133, bt137.1, bt137.2)))))) else (none)) else (none)) else (none)) = some (r1, r2, r3, r4, r5) := by first | (rw [hji23] at H; exact H) | (simp only [hji23] at H ⊢; exact H)
                        (try rw [hji23] at A21)
                        have hji23w : (IntKind.i64.wrap (((x8_2.extract 1 x8_2.size).size : Int) - (t129.size : Int))) = ji23 := (i64_w _).trans hji23
                        (try (have hji23s := hji23; simp only [ByteArray.size_extract, Nat.min_self] at hji23s; have hji23sw := hji23w; simp only [ByteArray.size_extract, Nat.min_self] at hji23sw))
                        by_cases c24 : 0 ≤ (ji23)
                        · rw [if_pos c24] at H
                          have c24b0 := eq_true c24
                          have c24b1 : decide (0 ≤ (ji23)) = true := decide_eq_true c24
                          clear c24
                          by_cases c25 : (ji23) ≤ ((x8_2.extract 1 x8_2.size).size : Int)
                          · rw [if_pos c25] at H
                            have c25b0 := eq_true c25
                            (try (have c25b0s := c25b0; simp only [ByteArray.size_extract, Nat.min_self] at c25b0s))
                            have c25b1 : decide ((ji23) ≤ ((x8_2.extract 1 x8_2.size).size : Int)) = true := decide_eq_true c25
                            (try (have c25b1s := c25b1; simp only [ByteArray.size_extract, Nat.min_self] at c25b1s))
                            clear c25
                            by_cases c26 : x13_2.length < 8796093022208
                            · rw [if_pos c26] at H
                              have LMc26 := Aside0.mk c26
                              clear c26
                              obtain ⟨y133, hy133⟩ : ∃ y_ : List ByteArray, y_ = (x13_2 ++ [(x8_2.extract 1 x8_2.size).extract 0 ((ji23) : Int).toNat]) := ⟨_, rfl⟩
                              replace H : ((strings_HasPrefix.f t129 (⟨#[32]⟩ : ByteArray)).bind fun t136 => (if t136 = true then (term_cut.l0 k2 t129 t121 y133) else ((strings_CutPrefix.f t129 (⟨#[41]⟩ : ByteArray)).bind fun bt137 => (some (2, t121, y133, bt137.1, bt137.2))))) = some (r1, r2, r3, r4, r5) := by first | (rw [hy133]; with_reducible exact H) | (have H2_ := (Option.bind_some _ _).symm.trans H; rw [hy133]; with_reducible exact H2_) | (have H2_ := (Option.bind_some _ _).symm.trans H; with_reducible exact H2_) | with_reducible exact H | (rw [hy133]; exact H) | exact H
                              have Ny133 := Aside0.mk hy133
                              clear hy133
                              replace H := Option.bind_eq_some_iff.mp H
                              obtain ⟨t136, A270, H⟩ := H
                              replace H : (if t136 = true then (term_cut.l0 k2 t129 t121 y133) else ((strings_CutPrefix.f t129 (⟨#[41]⟩ : ByteArray)).bind fun bt137 => (some (2, t121, y133, bt137.1, bt137.2)))) = some (r1, r2, r3, r4, r5) := H
                              have A27 := Aside0.mk A270
                              clear A270
                              by_cases c28 : t136 = true
                              · subst c28
                                have H1 : (term_cut.l0 k2 t129 t121 y133) = some (r1, r2, r3, r4, r5) := by rw [if_pos rfl] at H; exact H
                                clear H
                                have H := H1
                                clear H1
                                have H' := Aside0.mk H
                                clear H
                                obtain ⟨Ao29, co29, eo29⟩ := Kd.R_slice HO_13.out
                                subst eo29
                                go_wp2_with (first | ((with_reducible refine gate_callee (f := 57) rfl ?_); refine goesL_ (some 63) rfl rfl Tryd.func57 (by kernel_rfl) rfl #[.string (x8_2.extract 1 x8_2.size)] rfl hL_ ?_; (with_reducible refine (ih k2 (by have := HJ11.out; have := HK2.out; omega) (x8_2.extract 1 x8_2.size) t126 t127 t128 t129 true _ A21.out hG_).mono ?_); rintro e w30 ⟨v131, rfl, ho0, hb⟩; refine ⟨_, rfl, ?_⟩; have n0_ := Aside0.mk (Kd.R_elder' (hR_ HO_13.out) (Kd.R_base ho0) hb); have n1_ := Aside0.mk (Kd.R_lower (Kd.R_new' ho0 (Kd.R_lt (hR_ HO_13.out))) hS_); have n2_ := Aside0.mk (below_step hB_ hb); clear HO_13; clear HB; have HO_13 := n0_; have HO132 := n1_; have HB := n2_; clear n0_ n1_ n2_; (try clear hb); (try clear hb2); (try clear hk); (try clear hi); (try clear ho0)) | ((with_reducible refine gate_builtin (b := .append) (xs := #[.tmp 71, .tmp 79]) rfl ?_); at_builtin; refine Kd.R_append Kd.string (w0 := w) w.heap.size rfl (.tmp 71) (.tmp 79) 42 9 (.string ⟨#[]⟩) 16 rfl Tryd.underlying42 info9 rfl (by decide) (by omega) (.slice Ao29 x13_2.length co29) x13_2 ((x8_2.extract 1 x8_2.size).extract 0 ((ji23) : Int).toNat) [.string ((x8_2.extract 1 x8_2.size).extract 0 ((ji23) : Int).toNat)] (fun k_ => some k_ ≠ (v131 : Value).ownBlock) (fun _ => False) rfl rfl ?aP (fun _ hk => hk.elim) ?aF ?aO ?aB ?aS ?aL ?_; (case aP => exact rfl); (case aB => exact hB_); (case aF => exact (fun k_ hk => Kd.fresh' (Kd.R_lt (hR_ HO132.out)) k_ hk)); (case aO => exact (by (with_reducible repeat (first | apply Kd.R_alloc | apply Kd.R_drewN | apply Kd.R_drew)); exact Kd.R_mono HO_13.out (fun _ hk => hk.2))); (case aS => exact hS_); (case aL => have := LMc26.out; omega); intro v134 w31 ho hb hg hat; rw [← Ny133.out] at ho; have n0_ := Aside0.mk (Kd.R_after (ok := (fun _ => True)) (hR_ HO132.out) hg hat); have n1_ := Aside0.mk (hb); have n2_ := Aside0.mk (ho); clear HO132; clear HB; clear HO_13; have HO132 := n0_; have HB := n1_; have HO135 := n2_; clear n0_ n1_ n2_; clear ho hb hg hat) | ((with_reducible refine gate_callee (f := 65) rfl ?_); refine goesL_ (some 83) rfl rfl Tryd.func65 (by kernel_rfl) rfl #[.string t129, .string (⟨#[32]⟩ : ByteArray)] rfl hL_ ?_; (with_reducible refine (strings_HasPrefix.calls t129 (⟨#[32]⟩ : ByteArray) true _ A27.out).mono ?_); rintro e w' ⟨rfl, ⟨nd, rfl⟩⟩; refine ⟨_, rfl, ?_⟩))
                                go_roundg k2
                                case measure => have := HJ11.out; have := HK2.out; omega
                                case rel => exact ⟨(t129), (y133), (by first | rfl | (simp; done) | (simp [*]; done)), H', ⟨by have := HJ11.out; have := HK2.out; omega⟩, ⟨by (with_reducible repeat (first | apply Kd.R_alloc | apply Kd.R_drewN | apply Kd.R_drew)); exact Kd.R_mono HO135.out (fun _ hk => trivial)⟩, ⟨by repeat (first | (with_reducible first | exact HB.out | apply below_alloc | apply pw_below_drewN | apply below_drew1) | exact HB.out)⟩⟩
                              · replace c28 := Bool.eq_false_iff.mpr c28
                                subst c28
                                have H1 : ((strings_CutPrefix.f t129 (⟨#[41]⟩ : ByteArray)).bind fun bt137 => (some (2, t121, y133, bt137.1, bt137.2))) = some (r1, r2, r3, r4, r5) := by rw [if_neg (show ¬ (false = true) by decide)] at H; exact H
                                clear H
                                have H := H1
                                clear H1
                                replace H := Option.bind_eq_some_iff.mp H
                                obtain ⟨⟨t137, t138⟩, A320, H⟩ := H
                                replace H : (some (2, t121, y133, t137, t138)) = some (r1, r2, r3, r4, r5) := H
                                have A32 := Aside0.mk A320
                                clear A320
                                simp only [Option.some.injEq, Prod.mk.injEq] at H
                                obtain ⟨rfl, rfl, rfl, rfl, rfl⟩ := H
                                obtain ⟨Ao33, co33, eo33⟩ := Kd.R_slice HO_13.out
                                subst eo33
                                go_wp2_with (first | ((with_reducible refine gate_callee (f := 57) rfl ?_); refine goesL_ (some 63) rfl rfl Tryd.func57 (by kernel_rfl) rfl #[.string (x8_2.extract 1 x8_2.size)] rfl hL_ ?_; (with_reducible refine (ih k2 (by have := HJ11.out; have := HK2.out; omega) (x8_2.extract 1 x8_2.size) t126 t127 t128 t129 true _ A21.out hG_).mono ?_); rintro e w34 ⟨v131, rfl, ho0, hb⟩; refine ⟨_, rfl, ?_⟩; have n0_ := Aside0.mk (Kd.R_elder' (hR_ HO_13.out) (Kd.R_base ho0) hb); have n1_ := Aside0.mk (Kd.R_lower (Kd.R_new' ho0 (Kd.R_lt (hR_ HO_13.out))) hS_); have n2_ := Aside0.mk (below_step hB_ hb); clear HO_13; clear HB; have HO_13 := n0_; have HO132 := n1_; have HB := n2_; clear n0_ n1_ n2_; (try clear hb); (try clear hb2); (try clear hk); (try clear hi); (try clear ho0)) | ((with_reducible refine gate_builtin (b := .append) (xs := #[.tmp 71, .tmp 79]) rfl ?_); at_builtin; refine Kd.R_append Kd.string (w0 := w) w.heap.size rfl (.tmp 71) (.tmp 79) 42 9 (.string ⟨#[]⟩) 16 rfl Tryd.underlying42 info9 rfl (by decide) (by omega) (.slice Ao33 x13_2.length co33) x13_2 ((x8_2.extract 1 x8_2.size).extract 0 ((ji23) : Int).toNat) [.string ((x8_2.extract 1 x8_2.size).extract 0 ((ji23) : Int).toNat)] (fun k_ => some k_ ≠ (v131 : Value).ownBlock) (fun _ => False) rfl rfl ?aP (fun _ hk => hk.elim) ?aF ?aO ?aB ?aS ?aL ?_; (case aP => exact rfl); (case aB => exact hB_); (case aF => exact (fun k_ hk => Kd.fresh' (Kd.R_lt (hR_ HO132.out)) k_ hk)); (case aO => exact (by (with_reducible repeat (first | apply Kd.R_alloc | apply Kd.R_drewN | apply Kd.R_drew)); exact Kd.R_mono HO_13.out (fun _ hk => hk.2))); (case aS => exact hS_); (case aL => have := LMc26.out; omega); intro v134 w35 ho hb hg hat; rw [← Ny133.out] at ho; have n0_ := Aside0.mk (Kd.R_after (ok := (fun _ => True)) (hR_ HO132.out) hg hat); have n1_ := Aside0.mk (hb); have n2_ := Aside0.mk (ho); clear HO132; clear HB; clear HO_13; have HO132 := n0_; have HB := n1_; have HO135 := n2_; clear n0_ n1_ n2_; clear ho hb hg hat) | ((with_reducible refine gate_callee (f := 65) rfl ?_); refine goesL_ (some 83) rfl rfl Tryd.func65 (by kernel_rfl) rfl #[.string t129, .string (⟨#[32]⟩ : ByteArray)] rfl hL_ ?_; (with_reducible refine (strings_HasPrefix.calls t129 (⟨#[32]⟩ : ByteArray) false _ A27.out).mono ?_); rintro e w' ⟨rfl, ⟨nd, rfl⟩⟩; refine ⟨_, rfl, ?_⟩) | ((with_reducible refine gate_callee (f := 66) rfl ?_); refine goesL_ (some 87) rfl rfl Tryd.func66 (by kernel_rfl) rfl #[.string t129, .string (⟨#[41]⟩ : ByteArray)] rfl hL_ ?_; (with_reducible refine (strings_CutPrefix.calls t129 (⟨#[41]⟩ : ByteArray) t137 t138 _ A32.out).mono ?_); rintro e w' ⟨rfl, ⟨nd, rfl⟩⟩; refine ⟨_, rfl, ?_⟩))
                                refine bodyPost_ret (results_list (rs := [.tmp 2, .tmp 3, .tmp 4, .tmp 5, .tmp 6]) rfl (by simp) (.tmp (.tmp (.tmp (.tmp (.tmp .nil)))))) rfl ?_
                                exact ⟨_, by first | rfl | (simp [errW_none, errW_some] <;> rfl) | (simp only [← hji23]; first | rfl | (simp [errW_none, errW_some] <;> rfl)) | (simp [*, errW_none, errW_some] <;> rfl), by (with_reducible repeat (first | apply Kd.R_alloc | apply Kd.R_drewN | apply Kd.R_drew)); exact Kd.R_mono HO135.out (fun _ hk => trivial), by repeat (first | (with_reducible first | exact HB.out | apply below_alloc | apply pw_below_drewN | apply below_drew1) | exact HB.out)⟩
                            · rw [if_neg c26] at H
                              exact absurd H (by simp)
                          · rw [if_neg c25] at H
                            exact absurd H (by simp)
                        · rw [if_neg c24] at H
                          exact absurd H (by simp)
                      · replace c22 := Bool.eq_false_iff.mpr c22
                        subst c22
                        have H1 : (some (0, 0, ([] : List ByteArray), (⟨#[]⟩ : ByteArray), false)) = some (r1, r2, r3, r4, r5) := by rw [if_neg (show ¬ (false = true) by decide)] at H; exact H
                        clear H
                        have H := H1
                        clear H1
                        simp only [Option.some.injEq, Prod.mk.injEq] at H
                        obtain ⟨rfl, rfl, rfl, rfl, rfl⟩ := H
                        obtain ⟨Ao36, co36, eo36⟩ := Kd.R_slice HO_13.out
                        subst eo36
                        go_wp2_with (first | ((with_reducible refine gate_callee (f := 57) rfl ?_); refine goesL_ (some 63) rfl rfl Tryd.func57 (by kernel_rfl) rfl #[.string (x8_2.extract 1 x8_2.size)] rfl hL_ ?_; (with_reducible refine (ih k2 (by have := HJ11.out; have := HK2.out; omega) (x8_2.extract 1 x8_2.size) t126 t127 t128 t129 false _ A21.out hG_).mono ?_); rintro e w37 ⟨v131, rfl, ho0, hb⟩; refine ⟨_, rfl, ?_⟩; have n0_ := Aside0.mk (Kd.R_elder' (hR_ HO_13.out) (Kd.R_base ho0) hb); have n1_ := Aside0.mk (Kd.R_lower (Kd.R_new' ho0 (Kd.R_lt (hR_ HO_13.out))) hS_); have n2_ := Aside0.mk (below_step hB_ hb); clear HO_13; clear HB; have HO_13 := n0_; have HO132 := n1_; have HB := n2_; clear n0_ n1_ n2_; (try clear hb); (try clear hb2); (try clear hk); (try clear hi); (try clear ho0)))
                        refine bodyPost_ret (results_list (rs := [.tmp 2, .tmp 3, .tmp 4, .tmp 5, .tmp 6]) rfl (by simp) (.tmp (.tmp (.tmp (.tmp (.tmp .nil)))))) rfl ?_
                        exact ⟨_, by first | rfl | (simp [errW_none, errW_some] <;> rfl) | (simp [*, errW_none, errW_some] <;> rfl), by first | exact Kd.R_nil _ _ _ _ _ | exact Kd.N_nil _ _ _ _ _ | exact Kd.V_nil _ _ _ _ _ | exact Kd.Q_nil _ _ _ _ _ | exact Kd.S_nil _ _ _ _ _, by repeat (first | (with_reducible first | exact HB.out | apply below_alloc | apply pw_below_drewN | apply below_drew1) | exact HB.out)⟩
                    · rw [if_neg c20] at H
                      exact absurd H (by simp)
                  · rw [if_neg c19] at H
                    have c19b0 : decide ((x13_2.length : Int) < 3) = false := decide_eq_false c19
                    have c19b1 : decide (x13_2.length < 3) = false := decide_eq_false (by omega)
                    clear c19
                    replace H := Option.bind_eq_some_iff.mp H
                    obtain ⟨⟨t124, t125⟩, A380, H⟩ := H
                    replace H : (some (2, t121, x13_2, t124, t125)) = some (r1, r2, r3, r4, r5) := H
                    have A38 := Aside0.mk A380
                    clear A380
                    simp only [Option.some.injEq, Prod.mk.injEq] at H
                    obtain ⟨rfl, rfl, rfl, rfl, rfl⟩ := H
                    obtain ⟨Ao39, co39, eo39⟩ := Kd.R_slice HO_13.out
                    subst eo39
                    go_wp2_with (first | ((with_reducible refine gate_callee (f := 66) rfl ?_); refine goesL_ (some 87) rfl rfl Tryd.func66 (by kernel_rfl) rfl #[.string x8_2, .string (⟨#[41]⟩ : ByteArray)] rfl hL_ ?_; (with_reducible refine (strings_CutPrefix.calls x8_2 (⟨#[41]⟩ : ByteArray) t124 t125 _ A38.out).mono ?_); rintro e w' ⟨rfl, ⟨nd, rfl⟩⟩; refine ⟨_, rfl, ?_⟩))
                    refine bodyPost_ret (results_list (rs := [.tmp 2, .tmp 3, .tmp 4, .tmp 5, .tmp 6]) rfl (by simp) (.tmp (.tmp (.tmp (.tmp (.tmp .nil)))))) rfl ?_
                    exact ⟨_, by first | rfl | (simp [errW_none, errW_some] <;> rfl) | (simp [*, errW_none, errW_some] <;> rfl), by (with_reducible repeat (first | apply Kd.R_alloc | apply Kd.R_drewN | apply Kd.R_drew)); exact HO_13.out, by repeat (first | (with_reducible first | exact HB.out | apply below_alloc | apply pw_below_drewN | apply below_drew1) | exact HB.out)⟩

end Go.Proofs.YtgcdbpnflchobaaDoor.G
end
section
-- Laid by the session's own driver gp.py over the kit's printer. Not trusted: Lean checks it.
namespace Go.Proofs.YtgcdbpnflchobaaDoor.G
open Go.RowKit Go.Proofs.YtgcdbpnflchobaaDoorW.PrintWords Go.Proofs.YtgcdbpnflchobaaDoorW.PrintLast Go.Proofs.YtgcdbpnflchobaaDoorW.PrintMore
attribute [local go_sem] max2_int min2_int max_two min_two max_three min_three max_four min_four   -- for this text's walks alone
set_option linter.unusedVariables false
set_option linter.unusedSimpArgs false

/-! ### term_May: function 55 -/
def term_May.f (k : Nat) (a0 : ByteArray) : Option (Bool) := if (a0.size : Int) > 1024 then (some false) else ((term_cut.f k a0).bind fun bt139 => (if bt139.2.2.2.2 = true then (some (bt139.2.2.2.1.toList == ([] : List UInt8))) else (some false)))
theorem term_May.mono : ∀ a0 k, LeO (term_May.f k a0) (term_May.f (k + 1) a0) := by
  intro a0 k
  unfold term_May.f
  repeat' first
      | (with_reducible exact term_cut.mono _ _)
      | (with_reducible exact LeO.refl _)
      | (with_reducible exact LeO.none _)
      | (with_reducible refine LeO.ite ?_ ?_)
      | (with_reducible refine LeO.bind ?_ (fun _ => ?_))
      | exact term_cut.mono _ _
      | exact LeO.none _
      | refine LeO.ite ?_ ?_
      | refine LeO.bind ?_ (fun _ => ?_)
set_option maxHeartbeats 8000000 in
set_option maxRecDepth 100000 in
theorem term_May.calls (k : Nat) (a0 : ByteArray) (r : Bool) (w : World) (h : term_May.f k a0 = some r) (hG : GOK w) :
    Calls Tryd.prog 55 #[.string a0] w fun e w' => e = .returned (.bool r) ∧ Below w.heap.size w w' := by
  have HB := Aside0.mk (Below.refl w.heap.size w)
  have H : (if (a0.size : Int) > 1024 then (some false) else ((term_cut.f k a0).bind fun bt139 => (if bt139.2.2.2.2 = true then (some (bt139.2.2.2.1.toList == ([] : List UInt8))) else (some false)))) = some r := h
  clear h
  by_cases c2 : (a0.size : Int) > 1024
  · rw [if_pos c2] at H
    have c2b0 : decide (1024 < (a0.size : Int)) = true := decide_eq_true c2
    have c2b1 : decide (1024 < a0.size) = true := decide_eq_true (by omega)
    clear c2
    obtain rfl := Option.some.inj H
    go_enter Tryd.func55, Tryd.ntmps55
    go_wp2
    go_ret
    exact ⟨by first | rfl | (simp [errW_none, errW_some] <;> rfl) | (simp [*, errW_none, errW_some] <;> rfl), by repeat (first | (with_reducible first | exact HB.out | apply below_alloc | apply pw_below_drewN | apply below_drew1) | exact HB.out)⟩
  · rw [if_neg c2] at H
    have c2b0 : decide (1024 < (a0.size : Int)) = false := decide_eq_false c2
    have c2b1 : decide (1024 < a0.size) = false := decide_eq_false (by omega)
    clear c2
    replace H := Option.bind_eq_some_iff.mp H
    obtain ⟨⟨t139, t140, t141, t142, t143⟩, A30, H⟩ := H
    replace H : (if t143 = true then (some (t142.toList == ([] : List UInt8))) else (some false)) = some r := H
    have A3 := Aside0.mk A30
    clear A30
    by_cases c4 : t143 = true
    · subst c4
      have H1 : (some (t142.toList == ([] : List UInt8))) = some r := by rw [if_pos rfl] at H; exact H
      clear H
      have H := H1
      clear H1
      obtain rfl := Option.some.inj H
      go_enter Tryd.func55, Tryd.ntmps55
      go_wp2_with (first | ((with_reducible refine gate_callee (f := 57) rfl ?_); refine goesL_ (some 13) rfl rfl Tryd.func57 (by kernel_rfl) rfl #[.string a0] rfl hL_ ?_; (with_reducible refine (term_cut.calls k a0 t139 t140 t141 t142 true _ A3.out hG_).mono ?_); rintro e w5 ⟨v144, rfl, ho0, hb⟩; refine ⟨_, rfl, ?_⟩; have n0_ := Aside0.mk (Kd.R_lower ho0 hS_); have n1_ := Aside0.mk (below_step hB_ hb); clear HB; have HO145 := n0_; have HB := n1_; clear n0_ n1_; (try clear hb); (try clear hb2); (try clear hk); (try clear hi); (try clear ho0)))
      go_ret
      exact ⟨by first | rfl | (simp [errW_none, errW_some] <;> rfl) | (simp [*, errW_none, errW_some] <;> rfl), by repeat (first | (with_reducible first | exact HB.out | apply below_alloc | apply pw_below_drewN | apply below_drew1) | exact HB.out)⟩
    · replace c4 := Bool.eq_false_iff.mpr c4
      subst c4
      have H1 : (some false) = some r := by rw [if_neg (show ¬ (false = true) by decide)] at H; exact H
      clear H
      have H := H1
      clear H1
      obtain rfl := Option.some.inj H
      go_enter Tryd.func55, Tryd.ntmps55
      go_wp2_with (first | ((with_reducible refine gate_callee (f := 57) rfl ?_); refine goesL_ (some 13) rfl rfl Tryd.func57 (by kernel_rfl) rfl #[.string a0] rfl hL_ ?_; (with_reducible refine (term_cut.calls k a0 t139 t140 t141 t142 false _ A3.out hG_).mono ?_); rintro e w6 ⟨v144, rfl, ho0, hb⟩; refine ⟨_, rfl, ?_⟩; have n0_ := Aside0.mk (Kd.R_lower ho0 hS_); have n1_ := Aside0.mk (below_step hB_ hb); clear HB; have HO145 := n0_; have HB := n1_; clear n0_ n1_; (try clear hb); (try clear hb2); (try clear hk); (try clear hi); (try clear ho0)))
      go_ret
      exact ⟨by first | rfl | (simp [errW_none, errW_some] <;> rfl) | (simp [*, errW_none, errW_some] <;> rfl), by repeat (first | (with_reducible first | exact HB.out | apply below_alloc | apply pw_below_drewN | apply below_drew1) | exact HB.out)⟩

/-! ### term_All: function 54 -/
def term_All.l0 : Nat → List ByteArray → Int → Int → Option (Bool)
  | 0, _, _, _ => none
  | k + 1, x5, x6, x7 => if x7 < x6 then (if 0 ≤ x7 then (if x7 < (x5.length : Int) then ((term_May.f k (rdOf ByteArray.empty x5 x7)).bind fun t147 => (if t147 = true then (term_All.l0 k x5 x6 (wrap64 (x7 + 1))) else (some false))) else (none)) else (none)) else (some true)
def term_All.f (k : Nat) (l0 : List ByteArray) : Option (Bool) := term_All.l0 k l0 (l0.length : Int) 0
theorem term_All.mono_l : ∀ k, (∀ y0 y1 y2, LeO (term_All.l0 k y0 y1 y2) (term_All.l0 (k + 1) y0 y1 y2))
  | 0 => fun _ _ _ r h => by simp [term_All.l0] at h
  | k + 1 => by
    have ih0 := term_All.mono_l k
    · intro y0 y1 y2
      unfold term_All.l0
      repeat' first
      | (with_reducible exact ih0 _ _ _)
      | (with_reducible exact term_May.mono _ _)
      | (with_reducible exact LeO.refl _)
      | (with_reducible exact LeO.none _)
      | (with_reducible refine LeO.ite ?_ ?_)
      | (with_reducible refine LeO.bind ?_ (fun _ => ?_))
      | exact ih0 _ _ _
      | exact term_May.mono _ _
      | exact LeO.none _
      | refine LeO.ite ?_ ?_
      | refine LeO.bind ?_ (fun _ => ?_)
theorem term_All.mono : ∀ a0 k, LeO (term_All.f k a0) (term_All.f (k + 1) a0) := by
  intro a0 k
  have ih0 := term_All.mono_l k
  unfold term_All.f
  repeat' first
      | (with_reducible exact ih0 _ _ _)
      | (with_reducible exact term_May.mono _ _)
      | (with_reducible exact LeO.refl _)
      | (with_reducible exact LeO.none _)
      | (with_reducible refine LeO.ite ?_ ?_)
      | (with_reducible refine LeO.bind ?_ (fun _ => ?_))
      | exact ih0 _ _ _
      | exact term_May.mono _ _
      | exact LeO.none _
      | refine LeO.ite ?_ ?_
      | refine LeO.bind ?_ (fun _ => ?_)
set_option maxHeartbeats 8000000 in
set_option maxRecDepth 100000 in
theorem term_All.calls (k : Nat) (A0 : Option Addr) (c0 : Nat) (l0 : List ByteArray) (r : Bool) (w : World) (hr0 : Kd.C Kd.string w A0 l0.length l0) (hc0 : l0.length ≤ c0) (h : term_All.f k l0 = some r) (hG : GOK w) :
    Calls Tryd.prog 54 #[.slice A0 l0.length c0] w fun e w' => e = .returned (.bool r) ∧ Below w.heap.size w w' := by
  have HR0 := Aside0.mk hr0
  have HC0 := Aside0.mk hc0
  clear hr0 hc0
  have HB := Aside0.mk (Below.refl w.heap.size w)
  have H : (term_All.l0 k l0 (l0.length : Int) 0) = some r := h
  clear h
  have H' := Aside0.mk H
  clear H
  go_enter Tryd.func54, Tryd.ntmps54
  go_wp2
  go_loopg [7] k (fun kq v7 w' => ∃ (x7_1 : Int), v7 = .int .i64 x7_1 ∧ Aside0 (term_All.l0 kq l0 (l0.length : Int) x7_1 = some r) ∧ Aside0 (kq ≤ k) ∧ Aside0 (Below w.heap.size w w'))
  case atStart => exact ⟨(0), (by first | rfl | (simp; done) | (simp [*]; done)), H', ⟨Nat.le_refl _⟩, ⟨by repeat (first | (with_reducible first | exact HB.out | apply below_alloc | apply pw_below_drewN | apply below_drew1) | exact HB.out)⟩⟩
  case round =>
    clear H'
    obtain ⟨x7_1, rfl, HA, HK1, HB⟩ := hrel
    cases gk with
    | zero => exact absurd HA.out (by simp [term_All.l0])
    | succ k1 =>
      have H := HA.out
      clear HA
      simp only [term_All.l0] at H
      by_cases c2 : x7_1 < (l0.length : Int)
      · rw [if_pos c2] at H
        have c2b0 : decide (x7_1 < (l0.length : Int)) = true := decide_eq_true c2
        clear c2
        by_cases c3 : 0 ≤ x7_1
        · rw [if_pos c3] at H
          have c3b0 : decide (0 ≤ x7_1) = true := decide_eq_true c3
          clear c3
          by_cases c4 : x7_1 < (l0.length : Int)
          · rw [if_pos c4] at H
            have c4b0 : decide (x7_1 < (l0.length : Int)) = true := decide_eq_true c4
            clear c4
            replace H := Option.bind_eq_some_iff.mp H
            obtain ⟨t147, A50, H⟩ := H
            replace H : (if t147 = true then (term_All.l0 k1 l0 (l0.length : Int) (wrap64 (x7_1 + 1))) else (some false)) = some r := H
            have A5 := Aside0.mk A50
            clear A50
            by_cases c6 : t147 = true
            · subst c6
              have H1 : (term_All.l0 k1 l0 (l0.length : Int) (wrap64 (x7_1 + 1))) = some r := by rw [if_pos rfl] at H; exact H
              clear H
              have H := H1
              clear H1
              have H' := Aside0.mk H
              clear H
              have p146 : 0 ≤ (x7_1 : Int) := of_decide_eq_true hA_
              have q146 : x7_1 < (l0.length : Int) := of_decide_eq_true hA_
              obtain ⟨ad146, e146, hx146_0⟩ := Kd.at_string HR0.out x7_1 p146 q146
              cases e146
              replace hx146_0 := (HB.out.cell (World.block_lt_of_cell? w _ hx146_0)).trans hx146_0
              replace p146 := eq_true p146
              replace q146 := eq_true q146
              go_wp2_with (first | ((with_reducible refine gate_callee (f := 55) rfl ?_); refine goesL_ (some 12) rfl rfl Tryd.func55 (by kernel_rfl) rfl #[.string (rdOf ByteArray.empty l0 x7_1)] rfl hL_ ?_; (with_reducible refine (term_May.calls k1 (rdOf ByteArray.empty l0 x7_1) true _ A5.out hG_).mono ?_); rintro e w7 ⟨rfl, hb⟩; refine ⟨_, rfl, ?_⟩; have n0_ := Aside0.mk (below_step hB_ hb); clear HB; have HB := n0_; clear n0_; (try clear hb); (try clear hb2); (try clear hk); (try clear hi)))
              go_roundg k1
              case measure => have := HK1.out; omega
              case rel => exact ⟨(wrap64 (x7_1 + 1)), (by first | rfl | (simp; done) | (simp [*]; done)), H', ⟨by have := HK1.out; omega⟩, ⟨by repeat (first | (with_reducible first | exact HB.out | apply below_alloc | apply pw_below_drewN | apply below_drew1) | exact HB.out)⟩⟩
            · replace c6 := Bool.eq_false_iff.mpr c6
              subst c6
              have H1 : (some false) = some r := by rw [if_neg (show ¬ (false = true) by decide)] at H; exact H
              clear H
              have H := H1
              clear H1
              obtain rfl := Option.some.inj H
              have p146 : 0 ≤ (x7_1 : Int) := of_decide_eq_true hA_
              have q146 : x7_1 < (l0.length : Int) := of_decide_eq_true hA_
              obtain ⟨ad146, e146, hx146_0⟩ := Kd.at_string HR0.out x7_1 p146 q146
              cases e146
              replace hx146_0 := (HB.out.cell (World.block_lt_of_cell? w _ hx146_0)).trans hx146_0
              replace p146 := eq_true p146
              replace q146 := eq_true q146
              go_wp2_with (first | ((with_reducible refine gate_callee (f := 55) rfl ?_); refine goesL_ (some 12) rfl rfl Tryd.func55 (by kernel_rfl) rfl #[.string (rdOf ByteArray.empty l0 x7_1)] rfl hL_ ?_; (with_reducible refine (term_May.calls k1 (rdOf ByteArray.empty l0 x7_1) false _ A5.out hG_).mono ?_); rintro e w8 ⟨rfl, hb⟩; refine ⟨_, rfl, ?_⟩; have n0_ := Aside0.mk (below_step hB_ hb); clear HB; have HB := n0_; clear n0_; (try clear hb); (try clear hb2); (try clear hk); (try clear hi)))
              go_ret
              exact ⟨by first | rfl | (simp [errW_none, errW_some] <;> rfl) | (simp [*, errW_none, errW_some] <;> rfl), by repeat (first | (with_reducible first | exact HB.out | apply below_alloc | apply pw_below_drewN | apply below_drew1) | exact HB.out)⟩
          · rw [if_neg c4] at H
            exact absurd H (by simp)
        · rw [if_neg c3] at H
          exact absurd H (by simp)
      · rw [if_neg c2] at H
        have c2b0 : decide (x7_1 < (l0.length : Int)) = false := decide_eq_false c2
        clear c2
        obtain rfl := Option.some.inj H
        go_wp2
        go_ret
        exact ⟨by first | rfl | (simp [errW_none, errW_some] <;> rfl) | (simp [*, errW_none, errW_some] <;> rfl), by repeat (first | (with_reducible first | exact HB.out | apply below_alloc | apply pw_below_drewN | apply below_drew1) | exact HB.out)⟩

end Go.Proofs.YtgcdbpnflchobaaDoor.G
end
