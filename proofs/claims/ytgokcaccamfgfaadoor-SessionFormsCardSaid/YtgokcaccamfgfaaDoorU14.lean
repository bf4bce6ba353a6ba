/- Parts of this proof, one behind the other: G48, SessWake. -/
import Derived.Test.YtgokcaccamfgfaaDoorG0
import Derived.Test.YtgokcaccamfgfaaDoorU9
import Derived.Test.YtgokcaccamfgfaaDoorU13
section
-- Laid by the session's own driver gp.py over the kit's printer. Not trusted: Lean checks it.
namespace Go.Proofs.YtgokcaccamfgfaaDoor.G
open Go.RowKit Go.Proofs.YtgokcaccamfgfaaDoorW.PrintWords Go.Proofs.YtgokcaccamfgfaaDoorW.PrintLast Go.Proofs.YtgokcaccamfgfaaDoorW.PrintMore
attribute [local go_sem] max2_int min2_int max_two min_two max_three min_three max_four min_four   -- for this text's walks alone
set_option linter.unusedVariables false
set_option linter.unusedSimpArgs false

/-! ### sleuthlaw21_awake: function 14 -/
def sleuthlaw21_awake.f (k : Nat)  : Option (Bool) := (sleuthlaw21_some.f).bind fun t468 => ((session_New.f k t468 1).bind fun bt471 => ((session_New.f k ([] : List (S33)) 0).bind fun bt480 => ((sleuthlaw21_some.f).bind fun t489 => ((session_New.f k t489 2).bind fun bt492 => ((sleuthlaw21_some.f).bind fun t501 => ((sleuthlaw21_some.f).bind fun t508 => ((sleuthlaw21_some.f).bind fun t515 => ((sleuthlaw0_SameSession.f k bt471.1 bt471.2.1 bt471.2.2.1 t515 1 ([] : List (S26))).bind fun t518 => (if t518 = true then ((sleuthlaw0_Num.f bt471.2.2.2).bind fun t519 => (if t519 = 0 then ((sleuthlaw0_Num.f bt480.2.2.2).bind fun t520 => (if t520 = 2100 then ((sleuthlaw0_Num.f bt492.2.2.2).bind fun t521 => (if t521 = 2100 then ((session_May.f k bt471.1 bt471.2.1 bt471.2.2.1).bind fun t522 => (if t522 = true then ((session_May.f k t501 0 (([(⟨0, 2⟩ : S26), (⟨1, 1⟩ : S26)] : List (S26)))).bind fun t523 => (if t523 = true then ((session_May.f k t508 0 (([(⟨0, 2⟩ : S26), (⟨2, 1⟩ : S26)] : List (S26)))).bind fun t524 => (some (!t524))) else (none))) else (none))) else (none))) else (none))) else (none))) else (none))))))))))
theorem sleuthlaw21_awake.mono : ∀ k, LeO (sleuthlaw21_awake.f k ) (sleuthlaw21_awake.f (k + 1) ) := by
  intro  k
  unfold sleuthlaw21_awake.f
  repeat' first
      | (with_reducible exact session_May.mono _ _ _ _)
      | (with_reducible exact session_New.mono _ _ _)
      | (with_reducible exact sleuthlaw0_SameSession.mono _ _ _ _ _ _ _)
      | (with_reducible exact LeO.refl _)
      | (with_reducible exact LeO.none _)
      | (with_reducible refine LeO.ite ?_ ?_)
      | (with_reducible refine LeO.bind ?_ (fun _ => ?_))
      | exact session_May.mono _ _ _ _
      | exact session_New.mono _ _ _
      | exact sleuthlaw0_SameSession.mono _ _ _ _ _ _ _
      | exact LeO.none _
      | refine LeO.ite ?_ ?_
      | refine LeO.bind ?_ (fun _ => ?_)
def sleuthlaw21_awake.T6 : Bool × List (List Nat × List Nat) := (true, [([], []), ([], []), ([1], [1]), ([0, 2, 1], [0, 2]), ([3, 3], [3]), ([4], [4]), ([5, 4, 4], [4, 5]), ([6, 4], [4, 6]), ([4, 7], [4, 7]), ([8, 6], [8]), ([9], [9]), ([10, 9, 9], [9, 10]), ([11, 9], [9, 11]), ([9, 12], [9, 12]), ([13, 11], [13]), ([14], [14]), ([15, 14, 14], [14, 15]), ([16, 14], [14, 16]), ([14, 17], [14, 17]), ([18, 16], [18]), ([19], [19]), ([20, 19, 19], [19, 20]), ([19, 21], [19, 21]), ([22, 21], [22]), ([23], [23]), ([24, 23, 23], [23, 24]), ([23, 25], [23, 25]), ([26, 25], [26]), ([27], [27]), ([28, 27, 27], [27, 28]), ([29, 27], [27, 29]), ([27, 30], [27, 30]), ([31, 29, 0, 1, 2, 3, 4, 5, 6, 7, 8, 9, 10, 11, 12, 13, 14, 15, 16, 17, 18, 19, 20, 21, 22, 23, 24, 25, 26, 27, 28, 29, 30, 31], [31])])
def sleuthlaw21_awake.B6 : List Nat := [0, 0, 2, 7, 15, 31, 63, 127, 255, 511, 1023, 2047, 4095, 8191, 16383, 32767, 65535, 131071, 262143, 524287, 1048575, 2097151, 4194303, 8388607, 16777215, 33554431, 67108863, 134217727, 268435455, 536870911, 1073741823, 2147483647, 4294967295]
theorem sleuthlaw21_awake.tab6 : rtab .any (opsOf Tryd.f14 6) = sleuthlaw21_awake.T6 := by kernel_rfl
theorem sleuthlaw21_awake.bits6 : waitsOk sleuthlaw21_awake.T6.2 sleuthlaw21_awake.B6 = true := by kernel_rfl
set_option maxHeartbeats 8000000 in
set_option maxRecDepth 100000 in
theorem sleuthlaw21_awake.calls (k : Nat)  (r : Bool) (w : World) (h : sleuthlaw21_awake.f k  = some r) (hG : GOK w) :
    Calls Tryd.prog 14 #[] w fun e w' => e = .returned (.bool r) ∧ Below w.heap.size w w' := by
  have hu29 := Tryd.underlying29
  have hu26 := Tryd.underlying26
  have HB := Aside0.mk (Below.refl w.heap.size w)
  have H : ((sleuthlaw21_some.f).bind fun t468 => ((session_New.f k t468 1).bind fun bt471 => ((session_New.f k ([] : List (S33)) 0).bind fun bt480 => ((sleuthlaw21_some.f).bind fun t489 => ((session_New.f k t489 2).bind fun bt492 => ((sleuthlaw21_some.f).bind fun t501 => ((sleuthlaw21_some.f).bind fun t508 => ((sleuthlaw21_some.f).bind fun t515 => ((sleuthlaw0_SameSession.f k bt471.1 bt471.2.1 bt471.2.2.1 t515 1 ([] : List (S26))).bind fun t518 => (if t518 = true then ((sleuthlaw0_Num.f bt471.2.2.2).bind fun t519 => (if t519 = 0 then ((sleuthlaw0_Num.f bt480.2.2.2).bind fun t520 => (if t520 = 2100 then ((sleuthlaw0_Num.f bt492.2.2.2).bind fun t521 => (if t521 = 2100 then ((session_May.f k bt471.1 bt471.2.1 bt471.2.2.1).bind fun t522 => (if t522 = true then ((session_May.f k t501 0 (([(⟨0, 2⟩ : S26), (⟨1, 1⟩ : S26)] : List (S26)))).bind fun t523 => (if t523 = true then ((session_May.f k t508 0 (([(⟨0, 2⟩ : S26), (⟨2, 1⟩ : S26)] : List (S26)))).bind fun t524 => (some (!t524))) else (none))) else (none))) else (none))) else (none))) else (none))) else (none))))))))))) = some r := h
  clear h
  replace H := Option.bind_eq_some_iff.mp H
  obtain ⟨t468, A10, H⟩ := H
  replace H : ((session_New.f k t468 1).bind fun bt471 => ((session_New.f k ([] : List (S33)) 0).bind fun bt480 => ((sleuthlaw21_some.f).bind fun t489 => ((session_New.f k t489 2).bind fun bt492 => ((sleuthlaw21_some.f).bind fun t501 => ((sleuthlaw21_some.f).bind fun t508 => ((sleuthlaw21_some.f).bind fun t515 => ((sleuthlaw0_SameSession.f k bt471.1 bt471.2.1 bt471.2.2.1 t515 1 ([] : List (S26))).bind fun t518 => (if t518 = true then ((sleuthlaw0_Num.f bt471.2.2.2).bind fun t519 => (if t519 = 0 then ((sleuthlaw0_Num.f bt480.2.2.2).bind fun t520 => (if t520 = 2100 then ((sleuthlaw0_Num.f bt492.2.2.2).bind fun t521 => (if t521 = 2100 then ((session_May.f k bt471.1 bt471.2.1 bt471.2.2.1).bind fun t522 => (if t522 = true then ((session_May.f k t501 0 (([(⟨0, 2⟩ : S26), (⟨1, 1⟩ : S26)] : List (S26)))).bind fun t523 => (if t523 = true then ((session_May.f k t508 0 (([(⟨0, 2⟩ : S26), (⟨2, 1⟩ : S26)] : List (S26)))).bind fun t524 => (some (!t524))) else (none))) else (none))) else (none))) else (none))) else (none))) else (none)))))))))) = some r := H
  have A1 := Aside0.mk A10
  clear A10
  replace H := Option.bind_eq_some_iff.mp H
  obtain ⟨⟨t471, t474, t475, t478⟩, A20, H⟩ := H
  replace H : ((session_New.f k ([] : List (S33)) 0).bind fun bt480 => ((sleuthlaw21_some.f).bind fun t489 => ((session_New.f k t489 2).bind fun bt492 => ((sleuthlaw21_some.f).bind fun t501 => ((sleuthlaw21_some.f).bind fun t508 => ((sleuthlaw21_some.f).bind fun t515 => ((sleuthlaw0_SameSession.f k t471 t474 t475 t515 1 ([] : List (S26))).bind fun t518 => (if t518 = true then ((sleuthlaw0_Num.f t478).bind fun t519 => (if t519 = 0 then ((sleuthlaw0_Num.f bt480.2.2.2).bind fun t520 => (if t520 = 2100 then ((sleuthlaw0_Num.f bt492.2.2.2).bind fun t521 => (if t521 = 2100 then ((session_May.f k t471 t474 t475).bind fun t522 => (if t522 = true then ((session_May.f k t501 0 (([(⟨0, 2⟩ : S26), (⟨1, 1⟩ : S26)] : List (S26)))).bind fun t523 => (if t523 = true then ((session_May.f k t508 0 (([(⟨0, 2⟩ : S26), (⟨2, 1⟩ : S26)] : List (S26)))).bind fun t524 => (some (!t524))) else (none))) else (none))) else (none))) else (none))) else (none))) else (none))))))))) = some r := H
  have A2 := Aside0.mk A20
  clear A20
  replace H := Option.bind_eq_some_iff.mp H
  obtain ⟨⟨t480, t483, t484, t487⟩, A30, H⟩ := H
  replace H : ((sleuthlaw21_some.f).bind fun t489 => ((session_New.f k t489 2).bind fun bt492 => ((sleuthlaw21_some.f).bind fun t501 => ((sleuthlaw21_some.f).bind fun t508 => ((sleuthlaw21_some.f).bind fun t515 => ((sleuthlaw0_SameSession.f k t471 t474 t475 t515 1 ([] : List (S26))).bind fun t518 => (if t518 = true then ((sleuthlaw0_Num.f t478).bind fun t519 => (if t519 = 0 then ((sleuthlaw0_Num.f t487).bind fun t520 => (if t520 = 2100 then ((sleuthlaw0_Num.f bt492.2.2.2).bind fun t521 => (if t521 = 2100 then ((session_May.f k t471 t474 t475).bind fun t522 => (if t522 = true then ((session_May.f k t501 0 (([(⟨0, 2⟩ : S26), (⟨1, 1⟩ : S26)] : List (S26)))).bind fun t523 => (if t523 = true then ((session_May.f k t508 0 (([(⟨0, 2⟩ : S26), (⟨2, 1⟩ : S26)] : List (S26)))).bind fun t524 => (some (!t524))) else (none))) else (none))) else (none))) else (none))) else (none))) else (none)))))))) = some r := H
  have A3 := Aside0.mk A30
  clear A30
  replace H := Option.bind_eq_some_iff.mp H
  obtain ⟨t489, A40, H⟩ := H
  replace H : ((session_New.f k t489 2).bind fun bt492 => ((sleuthlaw21_some.f).bind fun t501 => ((sleuthlaw21_some.f).bind fun t508 => ((sleuthlaw21_some.f).bind fun t515 => ((sleuthlaw0_SameSession.f k t471 t474 t475 t515 1 ([] : List (S26))).bind fun t518 => (if t518 = true then ((sleuthlaw0_Num.f t478).bind fun t519 => (if t519 = 0 then ((sleuthlaw0_Num.f t487).bind fun t520 => (if t520 = 2100 then ((sleuthlaw0_Num.f bt492.2.2.2).bind fun t521 => (if t521 = 2100 then ((session_May.f k t471 t474 t475).bind fun t522 => (if t522 = true then ((session_May.f k t501 0 (([(⟨0, 2⟩ : S26), (⟨1, 1⟩ : S26)] : List (S26)))).bind fun t523 => (if t523 = true then ((session_May.f k t508 0 (([(⟨0, 2⟩ : S26), (⟨2, 1⟩ : S26)] : List (S26)))).bind fun t524 => (some (!t524))) else (none))) else (none))) else (none))) else (none))) else (none))) else (none))))))) = some r := H
  have A4 := Aside0.mk A40
  clear A40
  replace H := Option.bind_eq_some_iff.mp H
  obtain ⟨⟨t492, t495, t496, t499⟩, A50, H⟩ := H
  replace H : ((sleuthlaw21_some.f).bind fun t501 => ((sleuthlaw21_some.f).bind fun t508 => ((sleuthlaw21_some.f).bind fun t515 => ((sleuthlaw0_SameSession.f k t471 t474 t475 t515 1 ([] : List (S26))).bind fun t518 => (if t518 = true then ((sleuthlaw0_Num.f t478).bind fun t519 => (if t519 = 0 then ((sleuthlaw0_Num.f t487).bind fun t520 => (if t520 = 2100 then ((sleuthlaw0_Num.f t499).bind fun t521 => (if t521 = 2100 then ((session_May.f k t471 t474 t475).bind fun t522 => (if t522 = true then ((session_May.f k t501 0 (([(⟨0, 2⟩ : S26), (⟨1, 1⟩ : S26)] : List (S26)))).bind fun t523 => (if t523 = true then ((session_May.f k t508 0 (([(⟨0, 2⟩ : S26), (⟨2, 1⟩ : S26)] : List (S26)))).bind fun t524 => (some (!t524))) else (none))) else (none))) else (none))) else (none))) else (none))) else (none)))))) = some r := H
  have A5 := Aside0.mk A50
  clear A50
  replace H := Option.bind_eq_some_iff.mp H
  obtain ⟨t501, A60, H⟩ := H
  replace H : ((sleuthlaw21_some.f).bind fun t508 => ((sleuthlaw21_some.f).bind fun t515 => ((sleuthlaw0_SameSession.f k t471 t474 t475 t515 1 ([] : List (S26))).bind fun t518 => (if t518 = true then ((sleuthlaw0_Num.f t478).bind fun t519 => (if t519 = 0 then ((sleuthlaw0_Num.f t487).bind fun t520 => (if t520 = 2100 then ((sleuthlaw0_Num.f t499).bind fun t521 => (if t521 = 2100 then ((session_May.f k t471 t474 t475).bind fun t522 => (if t522 = true then ((session_May.f k t501 0 (([(⟨0, 2⟩ : S26), (⟨1, 1⟩ : S26)] : List (S26)))).bind fun t523 => (if t523 = true then ((session_May.f k t508 0 (([(⟨0, 2⟩ : S26), (⟨2, 1⟩ : S26)] : List (S26)))).bind fun t524 => (some (!t524))) else (none))) else (none))) else (none))) else (none))) else (none))) else (none))))) = some r := H
  have A6 := Aside0.mk A60
  clear A60
  obtain ⟨y504, hy504⟩ : ∃ y_ : List (S26), y_ = (([(⟨0, 2⟩ : S26), (⟨1, 1⟩ : S26)] : List (S26))) := ⟨_, rfl⟩
  replace H : ((sleuthlaw21_some.f).bind fun t508 => ((sleuthlaw21_some.f).bind fun t515 => ((sleuthlaw0_SameSession.f k t471 t474 t475 t515 1 ([] : List (S26))).bind fun t518 => (if t518 = true then ((sleuthlaw0_Num.f t478).bind fun t519 => (if t519 = 0 then ((sleuthlaw0_Num.f t487).bind fun t520 => (if t520 = 2100 then ((sleuthlaw0_Num.f t499).bind fun t521 => (if t521 = 2100 then ((session_May.f k t471 t474 t475).bind fun t522 => (if t522 = true then ((session_May.f k t501 0 y504).bind fun t523 => (if t523 = true then ((session_May.f k t508 0 (([(⟨0, 2⟩ : S26), (⟨2, 1⟩ : S26)] : List (S26)))).bind fun t524 => (some (!t524))) else (none))) else (none))) else (none))) else (none))) else (none))) else (none))))) = some r := by first | (rw [hy504]; with_reducible exact H) | (have H2_ := (Option.bind_some _ _).symm.trans H; rw [hy504]; with_reducible exact H2_) | (have H2_ := (Option.bind_some _ _).symm.trans H; with_reducible exact H2_) | with_reducible exact H | (rw [hy504]; exact H) | exact H
  have Ny504 := Aside0.mk hy504
  clear hy504
  replace H := Option.bind_eq_some_iff.mp H
  obtain ⟨t508, A70, H⟩ := H
  replace H : ((sleuthlaw21_some.f).bind fun t515 => ((sleuthlaw0_SameSession.f k t471 t474 t475 t515 1 ([] : List (S26))).bind fun t518 => (if t518 = true then ((sleuthlaw0_Num.f t478).bind fun t519 => (if t519 = 0 then ((sleuthlaw0_Num.f t487).bind fun t520 => (if t520 = 2100 then ((sleuthlaw0_Num.f t499).bind fun t521 => (if t521 = 2100 then ((session_May.f k t471 t474 t475).bind fun t522 => (if t522 = true then ((session_May.f k t501 0 y504).bind fun t523 => (if t523 = true then ((session_May.f k t508 0 (([(⟨0, 2⟩ : S26), (⟨2, 1⟩ : S26)] : List (S26)))).bind fun t524 => (some (!t524))) else (none))) else (none))) else (none))) else (none))) else (none))) else (none)))) = some r := H
  have A7 := Aside0.mk A70
  clear A70
  obtain ⟨y511, hy511⟩ : ∃ y_ : List (S26), y_ = (([(⟨0, 2⟩ : S26), (⟨2, 1⟩ : S26)] : List (S26))) := ⟨_, rfl⟩
  replace H : ((sleuthlaw21_some.f).bind fun t515 => ((sleuthlaw0_SameSession.f k t471 t474 t475 t515 1 ([] : List (S26))).bind fun t518 => (if t518 = true then ((sleuthlaw0_Num.f t478).bind fun t519 => (if t519 = 0 then ((sleuthlaw0_Num.f t487).bind fun t520 => (if t520 = 2100 then ((sleuthlaw0_Num.f t499).bind fun t521 => (if t521 = 2100 then ((session_May.f k t471 t474 t475).bind fun t522 => (if t522 = true then ((session_May.f k t501 0 y504).bind fun t523 => (if t523 = true then ((session_May.f k t508 0 y511).bind fun t524 => (some (!t524))) else (none))) else (none))) else (none))) else (none))) else (none))) else (none)))) = some r := by first | (rw [hy511]; with_reducible exact H) | (have H2_ := (Option.bind_some _ _).symm.trans H; rw [hy511]; with_reducible exact H2_) | (have H2_ := (Option.bind_some _ _).symm.trans H; with_reducible exact H2_) | with_reducible exact H | (rw [hy511]; exact H) | exact H
  have Ny511 := Aside0.mk hy511
  clear hy511
  replace H := Option.bind_eq_some_iff.mp H
  obtain ⟨t515, A80, H⟩ := H
  replace H : ((sleuthlaw0_SameSession.f k t471 t474 t475 t515 1 ([] : List (S26))).bind fun t518 => (if t518 = true then ((sleuthlaw0_Num.f t478).bind fun t519 => (if t519 = 0 then ((sleuthlaw0_Num.f t487).bind fun t520 => (if t520 = 2100 then ((sleuthlaw0_Num.f t499).bind fun t521 => (if t521 = 2100 then ((session_May.f k t471 t474 t475).bind fun t522 => (if t522 = true then ((session_May.f k t501 0 y504).bind fun t523 => (if t523 = true then ((session_May.f k t508 0 y511).bind fun t524 => (some (!t524))) else (none))) else (none))) else (none))) else (none))) else (none))) else (none))) = some r := H
  have A8 := Aside0.mk A80
  clear A80
  replace H := Option.bind_eq_some_iff.mp H
  obtain ⟨t518, A90, H⟩ := H
  replace H : (if t518 = true then ((sleuthlaw0_Num.f t478).bind fun t519 => (if t519 = 0 then ((sleuthlaw0_Num.f t487).bind fun t520 => (if t520 = 2100 then ((sleuthlaw0_Num.f t499).bind fun t521 => (if t521 = 2100 then ((session_May.f k t471 t474 t475).bind fun t522 => (if t522 = true then ((session_May.f k t501 0 y504).bind fun t523 => (if t523 = true then ((session_May.f k t508 0 y511).bind fun t524 => (some (!t524))) else (none))) else (none))) else (none))) else (none))) else (none))) else (none)) = some r := H
  have A9 := Aside0.mk A90
  clear A90
  by_cases c10 : t518 = true
  case neg =>
    replace c10 := Bool.eq_false_iff.mpr c10
    subst c10
    have H1 : (none) = some r := by rw [if_neg (show ¬ (false = true) by decide)] at H; exact H
    clear H
    have H := H1
    clear H1
    cases H
  subst c10
  have H1 : ((sleuthlaw0_Num.f t478).bind fun t519 => (if t519 = 0 then ((sleuthlaw0_Num.f t487).bind fun t520 => (if t520 = 2100 then ((sleuthlaw0_Num.f t499).bind fun t521 => (if t521 = 2100 then ((session_May.f k t471 t474 t475).bind fun t522 => (if t522 = true then ((session_May.f k t501 0 y504).bind fun t523 => (if t523 = true then ((session_May.f k t508 0 y511).bind fun t524 => (some (!t524))) else (none))) else (none))) else (none))) else (none))) else (none))) = some r := by rw [if_pos rfl] at H; exact H
  clear H
  have H := H1
  clear H1
  replace H := Option.bind_eq_some_iff.mp H
  obtain ⟨t519, A110, H⟩ := H
  replace H : (if t519 = 0 then ((sleuthlaw0_Num.f t487).bind fun t520 => (if t520 = 2100 then ((sleuthlaw0_Num.f t499).bind fun t521 => (if t521 = 2100 then ((session_May.f k t471 t474 t475).bind fun t522 => (if t522 = true then ((session_May.f k t501 0 y504).bind fun t523 => (if t523 = true then ((session_May.f k t508 0 y511).bind fun t524 => (some (!t524))) else (none))) else (none))) else (none))) else (none))) else (none)) = some r := H
  have A11 := Aside0.mk A110
  clear A110
  by_cases c12 : t519 = 0
  case neg =>
    rw [if_neg c12] at H
    have c12b0 : (t519 == 0) = false := beq_eq_false_iff_ne.mpr c12
    have c12b1 : (t519 != 0) = true := bne_iff_ne.mpr c12
    cases H
  rw [if_pos c12] at H
  have c12b0 : (t519 == 0) = true := beq_iff_eq.mpr c12
  have c12b1 : (t519 != 0) = false := bne_eq_false_iff_eq.mpr c12
  clear c12
  replace H := Option.bind_eq_some_iff.mp H
  obtain ⟨t520, A130, H⟩ := H
  replace H : (if t520 = 2100 then ((sleuthlaw0_Num.f t499).bind fun t521 => (if t521 = 2100 then ((session_May.f k t471 t474 t475).bind fun t522 => (if t522 = true then ((session_May.f k t501 0 y504).bind fun t523 => (if t523 = true then ((session_May.f k t508 0 y511).bind fun t524 => (some (!t524))) else (none))) else (none))) else (none))) else (none)) = some r := H
  have A13 := Aside0.mk A130
  clear A130
  by_cases c14 : t520 = 2100
  case neg =>
    rw [if_neg c14] at H
    have c14b0 : (t520 == 2100) = false := beq_eq_false_iff_ne.mpr c14
    have c14b1 : (t520 != 2100) = true := bne_iff_ne.mpr c14
    cases H
  rw [if_pos c14] at H
  have c14b0 : (t520 == 2100) = true := beq_iff_eq.mpr c14
  have c14b1 : (t520 != 2100) = false := bne_eq_false_iff_eq.mpr c14
  clear c14
  replace H := Option.bind_eq_some_iff.mp H
  obtain ⟨t521, A150, H⟩ := H
  replace H : (if t521 = 2100 then ((session_May.f k t471 t474 t475).bind fun t522 => (if t522 = true then ((session_May.f k t501 0 y504).bind fun t523 => (if t523 = true then ((session_May.f k t508 0 y511).bind fun t524 => (some (!t524))) else (none))) else (none))) else (none)) = some r := H
  have A15 := Aside0.mk A150
  clear A150
  by_cases c16 : t521 = 2100
  case neg =>
    rw [if_neg c16] at H
    have c16b0 : (t521 == 2100) = false := beq_eq_false_iff_ne.mpr c16
    have c16b1 : (t521 != 2100) = true := bne_iff_ne.mpr c16
    cases H
  rw [if_pos c16] at H
  have c16b0 : (t521 == 2100) = true := beq_iff_eq.mpr c16
  have c16b1 : (t521 != 2100) = false := bne_eq_false_iff_eq.mpr c16
  clear c16
  replace H := Option.bind_eq_some_iff.mp H
  obtain ⟨t522, A170, H⟩ := H
  replace H : (if t522 = true then ((session_May.f k t501 0 y504).bind fun t523 => (if t523 = true then ((session_May.f k t508 0 y511).bind fun t524 => (some (!t524))) else (none))) else (none)) = some r := H
  have A17 := Aside0.mk A170
  clear A170
  by_cases c18 : t522 = true
  case neg =>
    replace c18 := Bool.eq_false_iff.mpr c18
    subst c18
    have H1 : (none) = some r := by rw [if_neg (show ¬ (false = true) by decide)] at H; exact H
    clear H
    have H := H1
    clear H1
    cases H
  subst c18
  have H1 : ((session_May.f k t501 0 y504).bind fun t523 => (if t523 = true then ((session_May.f k t508 0 y511).bind fun t524 => (some (!t524))) else (none))) = some r := by rw [if_pos rfl] at H; exact H
  clear H
  have H := H1
  clear H1
  replace H := Option.bind_eq_some_iff.mp H
  obtain ⟨t523, A190, H⟩ := H
  replace H : (if t523 = true then ((session_May.f k t508 0 y511).bind fun t524 => (some (!t524))) else (none)) = some r := H
  have A19 := Aside0.mk A190
  clear A190
  by_cases c20 : t523 = true
  case neg =>
    replace c20 := Bool.eq_false_iff.mpr c20
    subst c20
    have H1 : (none) = some r := by rw [if_neg (show ¬ (false = true) by decide)] at H; exact H
    clear H
    have H := H1
    clear H1
    cases H
  subst c20
  have H1 : ((session_May.f k t508 0 y511).bind fun t524 => (some (!t524))) = some r := by rw [if_pos rfl] at H; exact H
  clear H
  have H := H1
  clear H1
  replace H := Option.bind_eq_some_iff.mp H
  obtain ⟨t524, A210, H⟩ := H
  replace H : (some (!t524)) = some r := H
  have A21 := Aside0.mk A210
  clear A210
  obtain rfl := Option.some.inj H
  go_enter Tryd.func14, Tryd.ntmps14
  try go_wp2_with (first | ((with_reducible refine gate_callee (f := 15) rfl ?_); refine goesL_ (some 10) rfl rfl Tryd.func15 (by kernel_rfl) rfl #[] rfl hL_ ?_; (with_reducible refine (sleuthlaw21_some.calls  t468 _ A1.out).mono ?_); rintro e w22 ⟨v469, rfl, ho0, hb⟩; refine ⟨_, rfl, ?_⟩; have n0_ := Aside0.mk (Kd.N_lower (Kd.N_mono (ok' := fun k_ => True) ho0 (fun k_ hk_ => trivial)) hS_); have n1_ := Aside0.mk (below_step hB_ hb); clear HB; have HO470 := n0_; have HB := n1_; clear n0_ n1_; (try clear hb); (try clear hb2); (try clear hk); (try clear hi); (try clear ho0); obtain ⟨Ao23, co23, eo23⟩ := Kd.N_slice HO470.out; subst eo23) | ((with_reducible refine gate_callee (f := 17) rfl ?_); refine goesL_ (some 11) rfl rfl Tryd.func17 (by kernel_rfl) rfl #[.slice Ao23 t468.length co23, .int .i64 1] rfl hL_ ?_; (with_reducible refine (session_New.calls k _ _ t468 1 t471 t474 t475 t478 _ ?side1 ?side2 A2.out hG_).mono ?_); (case side1 => repeat (first | exact (Kd.N_reads' HO470.out).2.2 | (with_reducible refine Kd.C_alloc ?_ _) | (with_reducible refine Kd.C_drewN ?_ _) | (with_reducible refine Kd.C_drew ?_))); (case side2 => exact (Kd.N_reads' HO470.out).2.1); rintro e w24 ⟨v472, v476, rfl, ho0, ho1, hb⟩; refine ⟨_, rfl, ?_⟩; have n0_ := Aside0.mk (Kd.N_mono (Kd.N_told (Kd.N_told (Kd.N_old (hN_ HO470.out) hb) (Kd.N_base (Kd.R_N (Kd.S_R ho0)))) (Kd.R_base ho1)) (fun _ h_ => h_.1)); have n1_ := Aside0.mk (Kd.N_lower (Kd.N_mono (ok' := fun k_ => some k_ ≠ (v476 : Value).ownBlock ∧ some k_ ≠ (.slice Ao23 t468.length co23 : Value).ownBlock) (Kd.S_N (Kd.S_bound (Kd.S_apart' ho0 (Kd.R_typed ho1) (by decide)))) (fun k_ hk_ => ⟨hk_.1.2, (Kd.fresh' (Kd.N_lt (hN_ HO470.out)) k_ hk_.2.1)⟩)) hS_); have n2_ := Aside0.mk (Kd.R_lower ho1 hS_); have n3_ := Aside0.mk (below_step hB_ hb); clear HO470 HB; have HO470 := n0_; have HO473 := n1_; have HO477 := n2_; have HB := n3_; clear n0_ n1_ n2_ n3_; (try clear hb); (try clear hb2); (try clear hk); (try clear hi); (try clear ho0); (try clear ho1)) | ((with_reducible refine gate_dst (N := 1) rfl ?_); refine boxE_ 1 #[.slice none 0 0, .int .i64 0, .slice none 0 0] 29 ?_; intro gb479 hg w25 hbox hb; have n0_ := Aside0.mk (Kd.N_below (Kd.N_elderB (hN_ HO470.out) gb479 (Nat.le_of_eq hg.symm)) hb); have n1_ := Aside0.mk (Kd.N_below (Kd.N_elderB (hN_ HO473.out) gb479 (Nat.le_of_eq hg.symm)) hb); have n2_ := Aside0.mk (Kd.R_below (hR_ HO477.out) hb); have n3_ := Aside0.mk (below_step hB_ hb); have n4_ := Aside0.mk (hbox); have n5_ := Aside0.mk ((gE_ hg : w.heap.size ≤ gb479)); have n6_ := Aside0.mk ((gE_ hg : w.heap.size ≤ gb479)); clear HO470 HO473 HO477 HB; have HO470 := n0_; have HO473 := n1_; have HO477 := n2_; have HB := n3_; have BK479 := n4_; have GW479 := n5_; have GE479 := n6_; clear n0_ n1_ n2_ n3_ n4_ n5_ n6_; clear hb hbox hg; obtain ⟨Ao26, co26, eo26⟩ := Kd.N_slice HO473.out; subst eo26; obtain ⟨hcz27_0, hcz27_1, hcz27_2, hfz27_0, hfz27_1, hfz27_2⟩ := bx3_ BK479.out; obtain ⟨Ao28, co28, eo28⟩ := Kd.R_slice HO477.out; subst eo28) | ((with_reducible refine gate_callee (f := 17) rfl ?_); refine goesL_ (some 15) rfl rfl Tryd.func17 (by kernel_rfl) rfl #[.slice none 0 0, .int .i64 0] rfl hL_ ?_; (refine (session_New.calls k _ _ ([] : List (S33)) 0 t480 t483 t484 t487 _ ?side1 ?side2 A3.out (by first | exact hG | exact GOK.below hG hC_)).mono ?_); (case side1 => exact Kd.C_nil _ _); (case side2 => exact Nat.le_refl _); rintro e w29 ⟨v481, v485, rfl, ho0, ho1, hb⟩; refine ⟨_, rfl, ?_⟩; have n0_ := Aside0.mk (Kd.N_mono (Kd.N_told (Kd.N_told (Kd.N_old (by (with_reducible repeat (first | apply Kd.N_alloc | apply Kd.N_drewN | apply Kd.N_drew)); exact (Kd.N_mono (nF_ (nF_ (nF_ (Kd.N_mono HO470.out (fun k_ hk => (⟨hk, hk.2⟩ : _ ∧ k_ ≠ gb479)))))) (fun _ h_ => h_.1))) hb) (Kd.N_base (Kd.R_N (Kd.S_R ho0)))) (Kd.R_base ho1)) (fun _ h_ => h_.1)); have n1_ := Aside0.mk (Kd.N_mono (Kd.N_told (Kd.N_told (Kd.N_old (by (with_reducible repeat (first | apply Kd.N_alloc | apply Kd.N_drewN | apply Kd.N_drew)); exact (Kd.N_mono (nF_ (nF_ (nF_ (Kd.N_mono HO473.out (fun k_ hk => (⟨hk, hk.2⟩ : _ ∧ k_ ≠ gb479)))))) (fun _ h_ => h_.1))) hb) (Kd.N_base (Kd.R_N (Kd.S_R ho0)))) (Kd.R_base ho1)) (fun _ h_ => h_.1)); have n2_ := Aside0.mk (Kd.R_elder' (by (with_reducible repeat (first | apply Kd.R_alloc | apply Kd.R_drewN | apply Kd.R_drew)); exact (Kd.R_mono (rF_ (rF_ (rF_ (Kd.R_types HO477.out BK479.out (by decide))))) (fun _ h_ => h_.1))) (Kd.R_base ho1) hb); have n3_ := Aside0.mk (Kd.N_lower (Kd.N_mono (ok' := fun k_ => some k_ ≠ (v485 : Value).ownBlock ∧ some k_ ≠ (.slice Ao23 t468.length co23 : Value).ownBlock ∧ some k_ ≠ (.slice Ao26 t471.length co26 : Value).ownBlock ∧ some k_ ≠ (.slice Ao28 t475.length co28 : Value).ownBlock ∧ k_ ≠ gb479) (Kd.S_N (Kd.S_bound (Kd.S_apart' ho0 (Kd.R_typed ho1) (by decide)))) (fun k_ hk_ => ⟨hk_.1.2, (Kd.fresh' (Kd.N_lt (by (with_reducible repeat (first | apply Kd.N_alloc | apply Kd.N_drewN | apply Kd.N_drew)); exact (Kd.N_mono (nF_ (nF_ (nF_ (Kd.N_mono HO470.out (fun k_ hk => (⟨hk, hk.2⟩ : _ ∧ k_ ≠ gb479)))))) (fun _ h_ => h_.1)))) k_ hk_.2.1), (Kd.fresh' (Kd.N_lt (by (with_reducible repeat (first | apply Kd.N_alloc | apply Kd.N_drewN | apply Kd.N_drew)); exact (Kd.N_mono (nF_ (nF_ (nF_ (Kd.N_mono HO473.out (fun k_ hk => (⟨hk, hk.2⟩ : _ ∧ k_ ≠ gb479)))))) (fun _ h_ => h_.1)))) k_ hk_.2.1), (Kd.fresh' (Kd.R_lt (by (with_reducible repeat (first | apply Kd.R_alloc | apply Kd.R_drewN | apply Kd.R_drew)); exact (Kd.R_mono (rF_ (rF_ (rF_ (Kd.R_types HO477.out BK479.out (by decide))))) (fun _ h_ => h_.1)))) k_ hk_.2.1), (Kd.freshB (g := gb479) (o := .cells #[.slice Ao26 t471.length co26, .int .i64 t474, .slice Ao28 t475.length co28] 29 (0, 0)) (bP_ (bP_ (bP_ (hK_ BK479.out)))) k_ hk_.2.1)⟩)) (below_size hC_)); have n4_ := Aside0.mk (Kd.R_lower (Kd.R_new' ho1 (Kd.R_lt (by (with_reducible repeat (first | apply Kd.R_alloc | apply Kd.R_drewN | apply Kd.R_drew)); exact (Kd.R_mono (rF_ (rF_ (rF_ (Kd.R_types HO477.out BK479.out (by decide))))) (fun _ h_ => h_.1))))) (below_size hC_)); have n5_ := Aside0.mk (blk_below (g := gb479) (o := .cells #[.slice Ao26 t471.length co26, .int .i64 t474, .slice Ao28 t475.length co28] 29 (0, 0)) (bP_ (bP_ (bP_ (hK_ BK479.out)))) hb); have n6_ := Aside0.mk (below_step hC_ hb); clear HO470 HO473 HO477 BK479 HB; have HO470 := n0_; have HO473 := n1_; have HO477 := n2_; have HO482 := n3_; have HO486 := n4_; have BK479 := n5_; have HB := n6_; clear n0_ n1_ n2_ n3_ n4_ n5_ n6_; (try clear hb); (try clear hb2); (try clear hk); (try clear hi); (try clear ho0); (try clear ho1)) | ((with_reducible refine gate_dst (N := 3) rfl ?_); refine boxE_ 3 #[.slice none 0 0, .int .i64 0, .slice none 0 0] 29 ?_; intro gb488 hg w30 hbox hb; have n0_ := Aside0.mk (Kd.N_below (Kd.N_elderB (hN_ HO470.out) gb488 (Nat.le_of_eq hg.symm)) hb); have n1_ := Aside0.mk (Kd.N_below (Kd.N_elderB (hN_ HO473.out) gb488 (Nat.le_of_eq hg.symm)) hb); have n2_ := Aside0.mk (Kd.R_below (hR_ HO477.out) hb); have n3_ := Aside0.mk (Kd.N_below (Kd.N_elderB (hN_ HO482.out) gb488 (Nat.le_of_eq hg.symm)) hb); have n4_ := Aside0.mk (Kd.R_below (hR_ HO486.out) hb); have n5_ := Aside0.mk (bB_ BK479.out hb); have n6_ := Aside0.mk (below_step hC_ hb); have n7_ := Aside0.mk (hbox); have n8_ := Aside0.mk ((gE_ hg : w.heap.size ≤ gb488)); have n9_ := Aside0.mk ((gE_ hg : w.heap.size ≤ gb488)); have n10_ := Aside0.mk ((bL_ BK479.out hg : gb479 ≠ gb488)); have n11_ := Aside0.mk ((bG_ BK479.out hg : gb488 ≠ gb479)); clear HO470 HO473 HO477 HO482 HO486 BK479 HB; have HO470 := n0_; have HO473 := n1_; have HO477 := n2_; have HO482 := n3_; have HO486 := n4_; have BK479 := n5_; have HB := n6_; have BK488 := n7_; have GW488 := n8_; have GE488 := n9_; have NB479_488 := n10_; have NB488_479 := n11_; clear n0_ n1_ n2_ n3_ n4_ n5_ n6_ n7_ n8_ n9_ n10_ n11_; clear hb hbox hg; obtain ⟨Ao31, co31, eo31⟩ := Kd.N_slice HO482.out; subst eo31; have hnb32 := NB488_479.out; have hnc32 := NB479_488.out; obtain ⟨hcz33_0, hcz33_1, hcz33_2, hfz33_0, hfz33_1, hfz33_2⟩ := bx3_ BK488.out; obtain ⟨Ao34, co34, eo34⟩ := Kd.R_slice HO486.out; subst eo34) | ((with_reducible refine gate_callee (f := 15) rfl ?_); refine goesL_ (some 19) rfl rfl Tryd.func15 (by kernel_rfl) rfl #[] rfl hL_ ?_; (with_reducible refine (sleuthlaw21_some.calls  t489 _ A4.out).mono ?_); rintro e w35 ⟨v490, rfl, ho0, hb⟩; refine ⟨_, rfl, ?_⟩; have n0_ := Aside0.mk (Kd.N_elder' (by (with_reducible repeat (first | apply Kd.N_alloc | apply Kd.N_drewN | apply Kd.N_drew)); exact (Kd.N_mono (nF_ (nF_ (nF_ (Kd.N_mono HO470.out (fun k_ hk => (⟨hk, hk.2⟩ : _ ∧ k_ ≠ gb488)))))) (fun _ h_ => h_.1))) (Kd.N_base ho0) hb); have n1_ := Aside0.mk (Kd.N_elder' (by (with_reducible repeat (first | apply Kd.N_alloc | apply Kd.N_drewN | apply Kd.N_drew)); exact (Kd.N_mono (nF_ (nF_ (nF_ (Kd.N_mono HO473.out (fun k_ hk => (⟨hk, hk.2⟩ : _ ∧ k_ ≠ gb488)))))) (fun _ h_ => h_.1))) (Kd.N_base ho0) hb); have n2_ := Aside0.mk (Kd.R_below (by (with_reducible repeat (first | apply Kd.R_alloc | apply Kd.R_drewN | apply Kd.R_drew)); exact (Kd.R_mono (rF_ (rF_ (rF_ (Kd.R_types HO477.out BK488.out (by decide))))) (fun _ h_ => h_.1))) hb); have n3_ := Aside0.mk (Kd.N_elder' (by (with_reducible repeat (first | apply Kd.N_alloc | apply Kd.N_drewN | apply Kd.N_drew)); exact (Kd.N_mono (nF_ (nF_ (nF_ (Kd.N_mono HO482.out (fun k_ hk => (⟨hk, hk.2⟩ : _ ∧ k_ ≠ gb488)))))) (fun _ h_ => h_.1))) (Kd.N_base ho0) hb); have n4_ := Aside0.mk (Kd.R_below (by (with_reducible repeat (first | apply Kd.R_alloc | apply Kd.R_drewN | apply Kd.R_drew)); exact (Kd.R_mono (rF_ (rF_ (rF_ (Kd.R_types HO486.out BK488.out (by decide))))) (fun _ h_ => h_.1))) hb); have n5_ := Aside0.mk (Kd.N_lower (Kd.N_mono (ok' := fun k_ => some k_ ≠ (.slice Ao23 t468.length co23 : Value).ownBlock ∧ some k_ ≠ (.slice Ao26 t471.length co26 : Value).ownBlock ∧ some k_ ≠ (.slice Ao28 t475.length co28 : Value).ownBlock ∧ some k_ ≠ (.slice Ao31 t480.length co31 : Value).ownBlock ∧ some k_ ≠ (.slice Ao34 t484.length co34 : Value).ownBlock ∧ k_ ≠ gb479 ∧ k_ ≠ gb488) ho0 (fun k_ hk_ => ⟨(Kd.fresh' (Kd.N_lt (by (with_reducible repeat (first | apply Kd.N_alloc | apply Kd.N_drewN | apply Kd.N_drew)); exact (Kd.N_mono (nF_ (nF_ (nF_ (Kd.N_mono HO470.out (fun k_ hk => (⟨hk, hk.2⟩ : _ ∧ k_ ≠ gb488)))))) (fun _ h_ => h_.1)))) k_ hk_), (Kd.fresh' (Kd.N_lt (by (with_reducible repeat (first | apply Kd.N_alloc | apply Kd.N_drewN | apply Kd.N_drew)); exact (Kd.N_mono (nF_ (nF_ (nF_ (Kd.N_mono HO473.out (fun k_ hk => (⟨hk, hk.2⟩ : _ ∧ k_ ≠ gb488)))))) (fun _ h_ => h_.1)))) k_ hk_), (Kd.fresh' (Kd.R_lt (by (with_reducible repeat (first | apply Kd.R_alloc | apply Kd.R_drewN | apply Kd.R_drew)); exact (Kd.R_mono (rF_ (rF_ (rF_ (Kd.R_types HO477.out BK488.out (by decide))))) (fun _ h_ => h_.1)))) k_ hk_), (Kd.fresh' (Kd.N_lt (by (with_reducible repeat (first | apply Kd.N_alloc | apply Kd.N_drewN | apply Kd.N_drew)); exact (Kd.N_mono (nF_ (nF_ (nF_ (Kd.N_mono HO482.out (fun k_ hk => (⟨hk, hk.2⟩ : _ ∧ k_ ≠ gb488)))))) (fun _ h_ => h_.1)))) k_ hk_), (Kd.fresh' (Kd.R_lt (by (with_reducible repeat (first | apply Kd.R_alloc | apply Kd.R_drewN | apply Kd.R_drew)); exact (Kd.R_mono (rF_ (rF_ (rF_ (Kd.R_types HO486.out BK488.out (by decide))))) (fun _ h_ => h_.1)))) k_ hk_), (Kd.freshB (g := gb479) (o := .cells #[.slice Ao26 t471.length co26, .int .i64 t474, .slice Ao28 t475.length co28] 29 (0, 0)) (bF_ (bF_ (bF_ (hK_ BK479.out) NB479_488.out) NB479_488.out) NB479_488.out) k_ hk_), (Kd.freshB (g := gb488) (o := .cells #[.slice Ao31 t480.length co31, .int .i64 t483, .slice Ao34 t484.length co34] 29 (0, 0)) (bP_ (bP_ (bP_ (hK_ BK488.out)))) k_ hk_)⟩)) (below_size hC_)); have n6_ := Aside0.mk (blk_below (g := gb479) (o := .cells #[.slice Ao26 t471.length co26, .int .i64 t474, .slice Ao28 t475.length co28] 29 (0, 0)) (bF_ (bF_ (bF_ (hK_ BK479.out) NB479_488.out) NB479_488.out) NB479_488.out) hb); have n7_ := Aside0.mk (blk_below (g := gb488) (o := .cells #[.slice Ao31 t480.length co31, .int .i64 t483, .slice Ao34 t484.length co34] 29 (0, 0)) (bP_ (bP_ (bP_ (hK_ BK488.out)))) hb); have n8_ := Aside0.mk (below_step hC_ hb); clear HO470 HO473 HO477 HO482 HO486 BK479 BK488 HB; have HO470 := n0_; have HO473 := n1_; have HO477 := n2_; have HO482 := n3_; have HO486 := n4_; have HO491 := n5_; have BK479 := n6_; have BK488 := n7_; have HB := n8_; clear n0_ n1_ n2_ n3_ n4_ n5_ n6_ n7_ n8_; (try clear hb); (try clear hb2); (try clear hk); (try clear hi); (try clear ho0); obtain ⟨Ao36, co36, eo36⟩ := Kd.N_slice HO491.out; subst eo36) | ((with_reducible refine gate_callee (f := 17) rfl ?_); refine goesL_ (some 20) rfl rfl Tryd.func17 (by kernel_rfl) rfl #[.slice Ao36 t489.length co36, .int .i64 2] rfl hL_ ?_; (with_reducible refine (session_New.calls k _ _ t489 2 t492 t495 t496 t499 _ ?side1 ?side2 A5.out (by first | exact hG | exact GOK.below hG hC_)).mono ?_); (case side1 => repeat (first | exact (Kd.N_reads' HO491.out).2.2 | (with_reducible refine Kd.C_alloc ?_ _) | (with_reducible refine Kd.C_drewN ?_ _) | (with_reducible refine Kd.C_drew ?_))); (case side2 => exact (Kd.N_reads' HO491.out).2.1); rintro e w37 ⟨v493, v497, rfl, ho0, ho1, hb⟩; refine ⟨_, rfl, ?_⟩; have n0_ := Aside0.mk (Kd.N_mono (Kd.N_told (Kd.N_told (Kd.N_old (hN_ HO470.out) hb) (Kd.N_base (Kd.R_N (Kd.S_R ho0)))) (Kd.R_base ho1)) (fun _ h_ => h_.1)); have n1_ := Aside0.mk (Kd.N_mono (Kd.N_told (Kd.N_told (Kd.N_old (hN_ HO473.out) hb) (Kd.N_base (Kd.R_N (Kd.S_R ho0)))) (Kd.R_base ho1)) (fun _ h_ => h_.1)); have n2_ := Aside0.mk (Kd.R_elder' (hR_ HO477.out) (Kd.R_base ho1) hb); have n3_ := Aside0.mk (Kd.N_mono (Kd.N_told (Kd.N_told (Kd.N_old (hN_ HO482.out) hb) (Kd.N_base (Kd.R_N (Kd.S_R ho0)))) (Kd.R_base ho1)) (fun _ h_ => h_.1)); have n4_ := Aside0.mk (Kd.R_elder' (hR_ HO486.out) (Kd.R_base ho1) hb); have n5_ := Aside0.mk (Kd.N_mono (Kd.N_told (Kd.N_told (Kd.N_old (hN_ HO491.out) hb) (Kd.N_base (Kd.R_N (Kd.S_R ho0)))) (Kd.R_base ho1)) (fun _ h_ => h_.1)); have n6_ := Aside0.mk (Kd.N_lower (Kd.N_mono (ok' := fun k_ => some k_ ≠ (v497 : Value).ownBlock ∧ some k_ ≠ (.slice Ao23 t468.length co23 : Value).ownBlock ∧ some k_ ≠ (.slice Ao26 t471.length co26 : Value).ownBlock ∧ some k_ ≠ (.slice Ao28 t475.length co28 : Value).ownBlock ∧ some k_ ≠ (.slice Ao31 t480.length co31 : Value).ownBlock ∧ some k_ ≠ (.slice Ao34 t484.length co34 : Value).ownBlock ∧ some k_ ≠ (.slice Ao36 t489.length co36 : Value).ownBlock ∧ k_ ≠ gb479 ∧ k_ ≠ gb488) (Kd.S_N (Kd.S_bound (Kd.S_apart' ho0 (Kd.R_typed ho1) (by decide)))) (fun k_ hk_ => ⟨hk_.1.2, (Kd.fresh' (Kd.N_lt (hN_ HO470.out)) k_ hk_.2.1), (Kd.fresh' (Kd.N_lt (hN_ HO473.out)) k_ hk_.2.1), (Kd.fresh' (Kd.R_lt (hR_ HO477.out)) k_ hk_.2.1), (Kd.fresh' (Kd.N_lt (hN_ HO482.out)) k_ hk_.2.1), (Kd.fresh' (Kd.R_lt (hR_ HO486.out)) k_ hk_.2.1), (Kd.fresh' (Kd.N_lt (hN_ HO491.out)) k_ hk_.2.1), (Kd.freshB (g := gb479) (o := .cells #[.slice Ao26 t471.length co26, .int .i64 t474, .slice Ao28 t475.length co28] 29 (0, 0)) (hK_ BK479.out) k_ hk_.2.1), (Kd.freshB (g := gb488) (o := .cells #[.slice Ao31 t480.length co31, .int .i64 t483, .slice Ao34 t484.length co34] 29 (0, 0)) (hK_ BK488.out) k_ hk_.2.1)⟩)) (below_size hC_)); have n7_ := Aside0.mk (Kd.R_lower (Kd.R_new' (Kd.R_new' ho1 (Kd.R_lt (hR_ HO477.out))) (Kd.R_lt (hR_ HO486.out))) (below_size hC_)); have n8_ := Aside0.mk (bB_ BK479.out hb); have n9_ := Aside0.mk (bB_ BK488.out hb); have n10_ := Aside0.mk (below_step hC_ hb); clear HO470 HO473 HO477 HO482 HO486 HO491 BK479 BK488 HB; have HO470 := n0_; have HO473 := n1_; have HO477 := n2_; have HO482 := n3_; have HO486 := n4_; have HO491 := n5_; have HO494 := n6_; have HO498 := n7_; have BK479 := n8_; have BK488 := n9_; have HB := n10_; clear n0_ n1_ n2_ n3_ n4_ n5_ n6_ n7_ n8_ n9_ n10_; (try clear hb); (try clear hb2); (try clear hk); (try clear hi); (try clear ho0); (try clear ho1)) | ((with_reducible refine gate_dst (N := 5) rfl ?_); refine boxE_ 5 #[.slice none 0 0, .int .i64 0, .slice none 0 0] 29 ?_; intro gb500 hg w38 hbox hb; have n0_ := Aside0.mk (Kd.N_below (Kd.N_elderB (hN_ HO470.out) gb500 (Nat.le_of_eq hg.symm)) hb); have n1_ := Aside0.mk (Kd.N_below (Kd.N_elderB (hN_ HO473.out) gb500 (Nat.le_of_eq hg.symm)) hb); have n2_ := Aside0.mk (Kd.R_below (hR_ HO477.out) hb); have n3_ := Aside0.mk (Kd.N_below (Kd.N_elderB (hN_ HO482.out) gb500 (Nat.le_of_eq hg.symm)) hb); have n4_ := Aside0.mk (Kd.R_below (hR_ HO486.out) hb); have n5_ := Aside0.mk (Kd.N_below (Kd.N_elderB (hN_ HO491.out) gb500 (Nat.le_of_eq hg.symm)) hb); have n6_ := Aside0.mk (Kd.N_below (Kd.N_elderB (hN_ HO494.out) gb500 (Nat.le_of_eq hg.symm)) hb); have n7_ := Aside0.mk (Kd.R_below (hR_ HO498.out) hb); have n8_ := Aside0.mk (bB_ BK479.out hb); have n9_ := Aside0.mk (bB_ BK488.out hb); have n10_ := Aside0.mk (below_step hC_ hb); have n11_ := Aside0.mk (hbox); have n12_ := Aside0.mk ((gE_ hg : w.heap.size ≤ gb500)); have n13_ := Aside0.mk ((gE_ hg : w.heap.size ≤ gb500)); have n14_ := Aside0.mk ((bL_ BK479.out hg : gb479 ≠ gb500)); have n15_ := Aside0.mk ((bG_ BK479.out hg : gb500 ≠ gb479)); have n16_ := Aside0.mk ((bL_ BK488.out hg : gb488 ≠ gb500)); have n17_ := Aside0.mk ((bG_ BK488.out hg : gb500 ≠ gb488)); clear HO470 HO473 HO477 HO482 HO486 HO491 HO494 HO498 BK479 BK488 HB; have HO470 := n0_; have HO473 := n1_; have HO477 := n2_; have HO482 := n3_; have HO486 := n4_; have HO491 := n5_; have HO494 := n6_; have HO498 := n7_; have BK479 := n8_; have BK488 := n9_; have HB := n10_; have BK500 := n11_; have GW500 := n12_; have GE500 := n13_; have NB479_500 := n14_; have NB500_479 := n15_; have NB488_500 := n16_; have NB500_488 := n17_; clear n0_ n1_ n2_ n3_ n4_ n5_ n6_ n7_ n8_ n9_ n10_ n11_ n12_ n13_ n14_ n15_ n16_ n17_; clear hb hbox hg; obtain ⟨Ao39, co39, eo39⟩ := Kd.N_slice HO494.out; subst eo39; have hnb40 := NB500_479.out; have hnc40 := NB479_500.out; have hnb41 := NB500_488.out; have hnc41 := NB488_500.out; obtain ⟨hcz42_0, hcz42_1, hcz42_2, hfz42_0, hfz42_1, hfz42_2⟩ := bx3_ BK500.out; obtain ⟨Ao43, co43, eo43⟩ := Kd.R_slice HO498.out; subst eo43) | ((with_reducible refine gate_callee (f := 15) rfl ?_); refine goesL_ (some 23) rfl rfl Tryd.func15 (by kernel_rfl) rfl #[] rfl hL_ ?_; (with_reducible refine (sleuthlaw21_some.calls  t501 _ A6.out).mono ?_); rintro e w44 ⟨v502, rfl, ho0, hb⟩; refine ⟨_, rfl, ?_⟩; have n0_ := Aside0.mk (Kd.N_elder' (by (with_reducible repeat (first | apply Kd.N_alloc | apply Kd.N_drewN | apply Kd.N_drew)); exact (Kd.N_mono (nF_ (nF_ (nF_ (Kd.N_mono HO470.out (fun k_ hk => (⟨hk, hk.2⟩ : _ ∧ k_ ≠ gb500)))))) (fun _ h_ => h_.1))) (Kd.N_base ho0) hb); have n1_ := Aside0.mk (Kd.N_elder' (by (with_reducible repeat (first | apply Kd.N_alloc | apply Kd.N_drewN | apply Kd.N_drew)); exact (Kd.N_mono (nF_ (nF_ (nF_ (Kd.N_mono HO473.out (fun k_ hk => (⟨hk, hk.2⟩ : _ ∧ k_ ≠ gb500)))))) (fun _ h_ => h_.1))) (Kd.N_base ho0) hb); have n2_ := Aside0.mk (Kd.R_below (by (with_reducible repeat (first | apply Kd.R_alloc | apply Kd.R_drewN | apply Kd.R_drew)); exact (Kd.R_mono (rF_ (rF_ (rF_ (Kd.R_types HO477.out BK500.out (by decide))))) (fun _ h_ => h_.1))) hb); have n3_ := Aside0.mk (Kd.N_elder' (by (with_reducible repeat (first | apply Kd.N_alloc | apply Kd.N_drewN | apply Kd.N_drew)); exact (Kd.N_mono (nF_ (nF_ (nF_ (Kd.N_mono HO482.out (fun k_ hk => (⟨hk, hk.2⟩ : _ ∧ k_ ≠ gb500)))))) (fun _ h_ => h_.1))) (Kd.N_base ho0) hb); have n4_ := Aside0.mk (Kd.R_below (by (with_reducible repeat (first | apply Kd.R_alloc | apply Kd.R_drewN | apply Kd.R_drew)); exact (Kd.R_mono (rF_ (rF_ (rF_ (Kd.R_types HO486.out BK500.out (by decide))))) (fun _ h_ => h_.1))) hb); have n5_ := Aside0.mk (Kd.N_elder' (by (with_reducible repeat (first | apply Kd.N_alloc | apply Kd.N_drewN | apply Kd.N_drew)); exact (Kd.N_mono (nF_ (nF_ (nF_ (Kd.N_mono HO491.out (fun k_ hk => (⟨hk, hk.2⟩ : _ ∧ k_ ≠ gb500)))))) (fun _ h_ => h_.1))) (Kd.N_base ho0) hb); have n6_ := Aside0.mk (Kd.N_elder' (by (with_reducible repeat (first | apply Kd.N_alloc | apply Kd.N_drewN | apply Kd.N_drew)); exact (Kd.N_mono (nF_ (nF_ (nF_ (Kd.N_mono HO494.out (fun k_ hk => (⟨hk, hk.2⟩ : _ ∧ k_ ≠ gb500)))))) (fun _ h_ => h_.1))) (Kd.N_base ho0) hb); have n7_ := Aside0.mk (Kd.R_below (by (with_reducible repeat (first | apply Kd.R_alloc | apply Kd.R_drewN | apply Kd.R_drew)); exact (Kd.R_mono (rF_ (rF_ (rF_ (Kd.R_types HO498.out BK500.out (by decide))))) (fun _ h_ => h_.1))) hb); have n8_ := Aside0.mk (Kd.N_lower (Kd.N_mono (ok' := fun k_ => some k_ ≠ (.slice Ao23 t468.length co23 : Value).ownBlock ∧ some k_ ≠ (.slice Ao26 t471.length co26 : Value).ownBlock ∧ some k_ ≠ (.slice Ao28 t475.length co28 : Value).ownBlock ∧ some k_ ≠ (.slice Ao31 t480.length co31 : Value).ownBlock ∧ some k_ ≠ (.slice Ao34 t484.length co34 : Value).ownBlock ∧ some k_ ≠ (.slice Ao36 t489.length co36 : Value).ownBlock ∧ some k_ ≠ (.slice Ao39 t492.length co39 : Value).ownBlock ∧ some k_ ≠ (.slice Ao43 t496.length co43 : Value).ownBlock ∧ k_ ≠ gb479 ∧ k_ ≠ gb488 ∧ k_ ≠ gb500) ho0 (fun k_ hk_ => ⟨(Kd.fresh' (Kd.N_lt (by (with_reducible repeat (first | apply Kd.N_alloc | apply Kd.N_drewN | apply Kd.N_drew)); exact (Kd.N_mono (nF_ (nF_ (nF_ (Kd.N_mono HO470.out (fun k_ hk => (⟨hk, hk.2⟩ : _ ∧ k_ ≠ gb500)))))) (fun _ h_ => h_.1)))) k_ hk_), (Kd.fresh' (Kd.N_lt (by (with_reducible repeat (first | apply Kd.N_alloc | apply Kd.N_drewN | apply Kd.N_drew)); exact (Kd.N_mono (nF_ (nF_ (nF_ (Kd.N_mono HO473.out (fun k_ hk => (⟨hk, hk.2⟩ : _ ∧ k_ ≠ gb500)))))) (fun _ h_ => h_.1)))) k_ hk_), (Kd.fresh' (Kd.R_lt (by (with_reducible repeat (first | apply Kd.R_alloc | apply Kd.R_drewN | apply Kd.R_drew)); exact (Kd.R_mono (rF_ (rF_ (rF_ (Kd.R_types HO477.out BK500.out (by decide))))) (fun _ h_ => h_.1)))) k_ hk_), (Kd.fresh' (Kd.N_lt (by (with_reducible repeat (first | apply Kd.N_alloc | apply Kd.N_drewN | apply Kd.N_drew)); exact (Kd.N_mono (nF_ (nF_ (nF_ (Kd.N_mono HO482.out (fun k_ hk => (⟨hk, hk.2⟩ : _ ∧ k_ ≠ gb500)))))) (fun _ h_ => h_.1)))) k_ hk_), (Kd.fresh' (Kd.R_lt (by (with_reducible repeat (first | apply Kd.R_alloc | apply Kd.R_drewN | apply Kd.R_drew)); exact (Kd.R_mono (rF_ (rF_ (rF_ (Kd.R_types HO486.out BK500.out (by decide))))) (fun _ h_ => h_.1)))) k_ hk_), (Kd.fresh' (Kd.N_lt (by (with_reducible repeat (first | apply Kd.N_alloc | apply Kd.N_drewN | apply Kd.N_drew)); exact (Kd.N_mono (nF_ (nF_ (nF_ (Kd.N_mono HO491.out (fun k_ hk => (⟨hk, hk.2⟩ : _ ∧ k_ ≠ gb500)))))) (fun _ h_ => h_.1)))) k_ hk_), (Kd.fresh' (Kd.N_lt (by (with_reducible repeat (first | apply Kd.N_alloc | apply Kd.N_drewN | apply Kd.N_drew)); exact (Kd.N_mono (nF_ (nF_ (nF_ (Kd.N_mono HO494.out (fun k_ hk => (⟨hk, hk.2⟩ : _ ∧ k_ ≠ gb500)))))) (fun _ h_ => h_.1)))) k_ hk_), (Kd.fresh' (Kd.R_lt (by (with_reducible repeat (first | apply Kd.R_alloc | apply Kd.R_drewN | apply Kd.R_drew)); exact (Kd.R_mono (rF_ (rF_ (rF_ (Kd.R_types HO498.out BK500.out (by decide))))) (fun _ h_ => h_.1)))) k_ hk_), (Kd.freshB (g := gb479) (o := .cells #[.slice Ao26 t471.length co26, .int .i64 t474, .slice Ao28 t475.length co28] 29 (0, 0)) (bF_ (bF_ (bF_ (hK_ BK479.out) NB479_500.out) NB479_500.out) NB479_500.out) k_ hk_), (Kd.freshB (g := gb488) (o := .cells #[.slice Ao31 t480.length co31, .int .i64 t483, .slice Ao34 t484.length co34] 29 (0, 0)) (bF_ (bF_ (bF_ (hK_ BK488.out) NB488_500.out) NB488_500.out) NB488_500.out) k_ hk_), (Kd.freshB (g := gb500) (o := .cells #[.slice Ao39 t492.length co39, .int .i64 t495, .slice Ao43 t496.length co43] 29 (0, 0)) (bP_ (bP_ (bP_ (hK_ BK500.out)))) k_ hk_)⟩)) (below_size hC_)); have n9_ := Aside0.mk (blk_below (g := gb479) (o := .cells #[.slice Ao26 t471.length co26, .int .i64 t474, .slice Ao28 t475.length co28] 29 (0, 0)) (bF_ (bF_ (bF_ (hK_ BK479.out) NB479_500.out) NB479_500.out) NB479_500.out) hb); have n10_ := Aside0.mk (blk_below (g := gb488) (o := .cells #[.slice Ao31 t480.length co31, .int .i64 t483, .slice Ao34 t484.length co34] 29 (0, 0)) (bF_ (bF_ (bF_ (hK_ BK488.out) NB488_500.out) NB488_500.out) NB488_500.out) hb); have n11_ := Aside0.mk (blk_below (g := gb500) (o := .cells #[.slice Ao39 t492.length co39, .int .i64 t495, .slice Ao43 t496.length co43] 29 (0, 0)) (bP_ (bP_ (bP_ (hK_ BK500.out)))) hb); have n12_ := Aside0.mk (below_step hC_ hb); clear HO470 HO473 HO477 HO482 HO486 HO491 HO494 HO498 BK479 BK488 BK500 HB; have HO470 := n0_; have HO473 := n1_; have HO477 := n2_; have HO482 := n3_; have HO486 := n4_; have HO491 := n5_; have HO494 := n6_; have HO498 := n7_; have HO503 := n8_; have BK479 := n9_; have BK488 := n10_; have BK500 := n11_; have HB := n12_; clear n0_ n1_ n2_ n3_ n4_ n5_ n6_ n7_ n8_ n9_ n10_ n11_ n12_; (try clear hb); (try clear hb2); (try clear hk); (try clear hi); (try clear ho0)) | ((with_reducible refine gate_dst (N := 26) rfl ?_); refine Kd.R_lit k26 _ 26 ?hg (N := 26) ?hd (xs := ([(⟨0, 2⟩ : S26), (⟨1, 1⟩ : S26)] : List (S26))) (inner := [.int .i64 0, .int .i64 2, .int .i64 1, .int .i64 1]) (ok := fun _ => True) (okp := fun _ => True) ?hr ?hp (fun _ hk => hk) trivial (Below.refl _ _) (Nat.le_refl _) (by simp) ?_; (case hd => rfl); (case hg => rfl); (case hr => first | (go_simp; done) | (go_simp; rfl)); (case hp => exact (Reps.c2 (show Kd.M k26 _ _ _ (⟨0, 2⟩ : S26) [.int .i64 0, .int .i64 2] from (k26_mkM _ _ _ (⟨0, 2⟩ : S26) )) (Reps.c2 (show Kd.M k26 _ _ _ (⟨1, 1⟩ : S26) [.int .i64 1, .int .i64 1] from (k26_mkM _ _ _ (⟨1, 1⟩ : S26) )) (Reps.none _ _)))); intro v505 w45 ho46 hb hg_ hnew_; clear hg_ hnew_; (first | rw [← Ny504.out] at ho46 | (simp only [Int.reduceToNat] at ho46; rw [← Ny504.out] at ho46)); have n0_ := Aside0.mk (Kd.N_elder' (hN_ HO470.out) (Kd.R_base ho46) hb); have n1_ := Aside0.mk (Kd.N_elder' (hN_ HO473.out) (Kd.R_base ho46) hb); have n2_ := Aside0.mk (Kd.R_elder' (hR_ HO477.out) (Kd.R_base ho46) hb); have n3_ := Aside0.mk (Kd.N_elder' (hN_ HO482.out) (Kd.R_base ho46) hb); have n4_ := Aside0.mk (Kd.R_elder' (hR_ HO486.out) (Kd.R_base ho46) hb); have n5_ := Aside0.mk (Kd.N_elder' (hN_ HO491.out) (Kd.R_base ho46) hb); have n6_ := Aside0.mk (Kd.N_elder' (hN_ HO494.out) (Kd.R_base ho46) hb); have n7_ := Aside0.mk (Kd.R_elder' (hR_ HO498.out) (Kd.R_base ho46) hb); have n8_ := Aside0.mk (Kd.N_elder' (hN_ HO503.out) (Kd.R_base ho46) hb); have n9_ := Aside0.mk (Kd.R_lower (Kd.R_new' (Kd.R_new' (Kd.R_new' ho46 (Kd.R_lt (hR_ HO477.out))) (Kd.R_lt (hR_ HO486.out))) (Kd.R_lt (hR_ HO498.out))) (below_size hC_)); have n10_ := Aside0.mk (bB_ BK479.out hb); have n11_ := Aside0.mk (bB_ BK488.out hb); have n12_ := Aside0.mk (bB_ BK500.out hb); have n13_ := Aside0.mk (below_step hC_ hb); clear HO470 HO473 HO477 HO482 HO486 HO491 HO494 HO498 HO503 BK479 BK488 BK500 HB; have HO470 := n0_; have HO473 := n1_; have HO477 := n2_; have HO482 := n3_; have HO486 := n4_; have HO491 := n5_; have HO494 := n6_; have HO498 := n7_; have HO503 := n8_; have HO506 := n9_; have BK479 := n10_; have BK488 := n11_; have BK500 := n12_; have HB := n13_; clear n0_ n1_ n2_ n3_ n4_ n5_ n6_ n7_ n8_ n9_ n10_ n11_ n12_ n13_; clear hb ho46; obtain ⟨Ao47, co47, eo47⟩ := Kd.R_slice HO506.out; subst eo47; obtain ⟨Ao48, co48, eo48⟩ := Kd.N_slice HO503.out; subst eo48) | ((with_reducible refine gate_dst (N := 7) rfl ?_); refine boxE_ 7 #[.slice none 0 0, .int .i64 0, .slice none 0 0] 29 ?_; intro gb507 hg w49 hbox hb; have n0_ := Aside0.mk (Kd.N_below (Kd.N_elderB (hN_ HO470.out) gb507 (Nat.le_of_eq hg.symm)) hb); have n1_ := Aside0.mk (Kd.N_below (Kd.N_elderB (hN_ HO473.out) gb507 (Nat.le_of_eq hg.symm)) hb); have n2_ := Aside0.mk (Kd.R_below (hR_ HO477.out) hb); have n3_ := Aside0.mk (Kd.N_below (Kd.N_elderB (hN_ HO482.out) gb507 (Nat.le_of_eq hg.symm)) hb); have n4_ := Aside0.mk (Kd.R_below (hR_ HO486.out) hb); have n5_ := Aside0.mk (Kd.N_below (Kd.N_elderB (hN_ HO491.out) gb507 (Nat.le_of_eq hg.symm)) hb); have n6_ := Aside0.mk (Kd.N_below (Kd.N_elderB (hN_ HO494.out) gb507 (Nat.le_of_eq hg.symm)) hb); have n7_ := Aside0.mk (Kd.R_below (hR_ HO498.out) hb); have n8_ := Aside0.mk (Kd.N_below (Kd.N_elderB (hN_ HO503.out) gb507 (Nat.le_of_eq hg.symm)) hb); have n9_ := Aside0.mk (Kd.R_below (hR_ HO506.out) hb); have n10_ := Aside0.mk (bB_ BK479.out hb); have n11_ := Aside0.mk (bB_ BK488.out hb); have n12_ := Aside0.mk (bB_ BK500.out hb); have n13_ := Aside0.mk (below_step hC_ hb); have n14_ := Aside0.mk (hbox); have n15_ := Aside0.mk ((gE_ hg : w.heap.size ≤ gb507)); have n16_ := Aside0.mk ((gE_ hg : w.heap.size ≤ gb507)); have n17_ := Aside0.mk ((bL_ BK479.out hg : gb479 ≠ gb507)); have n18_ := Aside0.mk ((bG_ BK479.out hg : gb507 ≠ gb479)); have n19_ := Aside0.mk ((bL_ BK488.out hg : gb488 ≠ gb507)); have n20_ := Aside0.mk ((bG_ BK488.out hg : gb507 ≠ gb488)); have n21_ := Aside0.mk ((bL_ BK500.out hg : gb500 ≠ gb507)); have n22_ := Aside0.mk ((bG_ BK500.out hg : gb507 ≠ gb500)); clear HO470 HO473 HO477 HO482 HO486 HO491 HO494 HO498 HO503 HO506 BK479 BK488 BK500 HB; have HO470 := n0_; have HO473 := n1_; have HO477 := n2_; have HO482 := n3_; have HO486 := n4_; have HO491 := n5_; have HO494 := n6_; have HO498 := n7_; have HO503 := n8_; have HO506 := n9_; have BK479 := n10_; have BK488 := n11_; have BK500 := n12_; have HB := n13_; have BK507 := n14_; have GW507 := n15_; have GE507 := n16_; have NB479_507 := n17_; have NB507_479 := n18_; have NB488_507 := n19_; have NB507_488 := n20_; have NB500_507 := n21_; have NB507_500 := n22_; clear n0_ n1_ n2_ n3_ n4_ n5_ n6_ n7_ n8_ n9_ n10_ n11_ n12_ n13_ n14_ n15_ n16_ n17_ n18_ n19_ n20_ n21_ n22_; clear hb hbox hg; have hnb50 := NB507_479.out; have hnc50 := NB479_507.out; have hnb51 := NB507_488.out; have hnc51 := NB488_507.out; have hnb52 := NB507_500.out; have hnc52 := NB500_507.out; obtain ⟨hcz53_0, hcz53_1, hcz53_2, hfz53_0, hfz53_1, hfz53_2⟩ := bx3_ BK507.out) | ((with_reducible refine gate_callee (f := 15) rfl ?_); refine goesL_ (some 28) rfl rfl Tryd.func15 (by kernel_rfl) rfl #[] rfl hL_ ?_; (with_reducible refine (sleuthlaw21_some.calls  t508 _ A7.out).mono ?_); rintro e w54 ⟨v509, rfl, ho0, hb⟩; refine ⟨_, rfl, ?_⟩; have n0_ := Aside0.mk (Kd.N_elder' (by (with_reducible repeat (first | apply Kd.N_alloc | apply Kd.N_drewN | apply Kd.N_drew)); exact (Kd.N_mono (nF_ (nF_ (nF_ (Kd.N_mono HO470.out (fun k_ hk => (⟨hk, hk.2⟩ : _ ∧ k_ ≠ gb507)))))) (fun _ h_ => h_.1))) (Kd.N_base ho0) hb); have n1_ := Aside0.mk (Kd.N_elder' (by (with_reducible repeat (first | apply Kd.N_alloc | apply Kd.N_drewN | apply Kd.N_drew)); exact (Kd.N_mono (nF_ (nF_ (nF_ (Kd.N_mono HO473.out (fun k_ hk => (⟨hk, hk.2⟩ : _ ∧ k_ ≠ gb507)))))) (fun _ h_ => h_.1))) (Kd.N_base ho0) hb); have n2_ := Aside0.mk (Kd.R_below (by (with_reducible repeat (first | apply Kd.R_alloc | apply Kd.R_drewN | apply Kd.R_drew)); exact (Kd.R_mono (rF_ (rF_ (rF_ (Kd.R_types HO477.out BK507.out (by decide))))) (fun _ h_ => h_.1))) hb); have n3_ := Aside0.mk (Kd.N_elder' (by (with_reducible repeat (first | apply Kd.N_alloc | apply Kd.N_drewN | apply Kd.N_drew)); exact (Kd.N_mono (nF_ (nF_ (nF_ (Kd.N_mono HO482.out (fun k_ hk => (⟨hk, hk.2⟩ : _ ∧ k_ ≠ gb507)))))) (fun _ h_ => h_.1))) (Kd.N_base ho0) hb); have n4_ := Aside0.mk (Kd.R_below (by (with_reducible repeat (first | apply Kd.R_alloc | apply Kd.R_drewN | apply Kd.R_drew)); exact (Kd.R_mono (rF_ (rF_ (rF_ (Kd.R_types HO486.out BK507.out (by decide))))) (fun _ h_ => h_.1))) hb); have n5_ := Aside0.mk (Kd.N_elder' (by (with_reducible repeat (first | apply Kd.N_alloc | apply Kd.N_drewN | apply Kd.N_drew)); exact (Kd.N_mono (nF_ (nF_ (nF_ (Kd.N_mono HO491.out (fun k_ hk => (⟨hk, hk.2⟩ : _ ∧ k_ ≠ gb507)))))) (fun _ h_ => h_.1))) (Kd.N_base ho0) hb); have n6_ := Aside0.mk (Kd.N_elder' (by (with_reducible repeat (first | apply Kd.N_alloc | apply Kd.N_drewN | apply Kd.N_drew)); exact (Kd.N_mono (nF_ (nF_ (nF_ (Kd.N_mono HO494.out (fun k_ hk => (⟨hk, hk.2⟩ : _ ∧ k_ ≠ gb507)))))) (fun _ h_ => h_.1))) (Kd.N_base ho0) hb); have n7_ := Aside0.mk (Kd.R_below (by (with_reducible repeat (first | apply Kd.R_alloc | apply Kd.R_drewN | apply Kd.R_drew)); exact (Kd.R_mono (rF_ (rF_ (rF_ (Kd.R_types HO498.out BK507.out (by decide))))) (fun _ h_ => h_.1))) hb); have n8_ := Aside0.mk (Kd.N_elder' (by (with_reducible repeat (first | apply Kd.N_alloc | apply Kd.N_drewN | apply Kd.N_drew)); exact (Kd.N_mono (nF_ (nF_ (nF_ (Kd.N_mono HO503.out (fun k_ hk => (⟨hk, hk.2⟩ : _ ∧ k_ ≠ gb507)))))) (fun _ h_ => h_.1))) (Kd.N_base ho0) hb); have n9_ := Aside0.mk (Kd.R_below (by (with_reducible repeat (first | apply Kd.R_alloc | apply Kd.R_drewN | apply Kd.R_drew)); exact (Kd.R_mono (rF_ (rF_ (rF_ (Kd.R_types HO506.out BK507.out (by decide))))) (fun _ h_ => h_.1))) hb); have n10_ := Aside0.mk (Kd.N_lower (Kd.N_mono (ok' := fun k_ => some k_ ≠ (.slice Ao23 t468.length co23 : Value).ownBlock ∧ some k_ ≠ (.slice Ao26 t471.length co26 : Value).ownBlock ∧ some k_ ≠ (.slice Ao28 t475.length co28 : Value).ownBlock ∧ some k_ ≠ (.slice Ao31 t480.length co31 : Value).ownBlock ∧ some k_ ≠ (.slice Ao34 t484.length co34 : Value).ownBlock ∧ some k_ ≠ (.slice Ao36 t489.length co36 : Value).ownBlock ∧ some k_ ≠ (.slice Ao39 t492.length co39 : Value).ownBlock ∧ some k_ ≠ (.slice Ao43 t496.length co43 : Value).ownBlock ∧ some k_ ≠ (.slice Ao48 t501.length co48 : Value).ownBlock ∧ some k_ ≠ (.slice Ao47 y504.length co47 : Value).ownBlock ∧ k_ ≠ gb479 ∧ k_ ≠ gb488 ∧ k_ ≠ gb500 ∧ k_ ≠ gb507) ho0 (fun k_ hk_ => ⟨(Kd.fresh' (Kd.N_lt (by (with_reducible repeat (first | apply Kd.N_alloc | apply Kd.N_drewN | apply Kd.N_drew)); exact (Kd.N_mono (nF_ (nF_ (nF_ (Kd.N_mono HO470.out (fun k_ hk => (⟨hk, hk.2⟩ : _ ∧ k_ ≠ gb507)))))) (fun _ h_ => h_.1)))) k_ hk_), (Kd.fresh' (Kd.N_lt (by (with_reducible repeat (first | apply Kd.N_alloc | apply Kd.N_drewN | apply Kd.N_drew)); exact (Kd.N_mono (nF_ (nF_ (nF_ (Kd.N_mono HO473.out (fun k_ hk => (⟨hk, hk.2⟩ : _ ∧ k_ ≠ gb507)))))) (fun _ h_ => h_.1)))) k_ hk_), (Kd.fresh' (Kd.R_lt (by (with_reducible repeat (first | apply Kd.R_alloc | apply Kd.R_drewN | apply Kd.R_drew)); exact (Kd.R_mono (rF_ (rF_ (rF_ (Kd.R_types HO477.out BK507.out (by decide))))) (fun _ h_ => h_.1)))) k_ hk_), (Kd.fresh' (Kd.N_lt (by (with_reducible repeat (first | apply Kd.N_alloc | apply Kd.N_drewN | apply Kd.N_drew)); exact (Kd.N_mono (nF_ (nF_ (nF_ (Kd.N_mono HO482.out (fun k_ hk => (⟨hk, hk.2⟩ : _ ∧ k_ ≠ gb507)))))) (fun _ h_ => h_.1)))) k_ hk_), (Kd.fresh' (Kd.R_lt (by (with_reducible repeat (first | apply Kd.R_alloc | apply Kd.R_drewN | apply Kd.R_drew)); exact (Kd.R_mono (rF_ (rF_ (rF_ (Kd.R_types HO486.out BK507.out (by decide))))) (fun _ h_ => h_.1)))) k_ hk_), (Kd.fresh' (Kd.N_lt (by (with_reducible repeat (first | apply Kd.N_alloc | apply Kd.N_drewN | apply Kd.N_drew)); exact (Kd.N_mono (nF_ (nF_ (nF_ (Kd.N_mono HO491.out (fun k_ hk => (⟨hk, hk.2⟩ : _ ∧ k_ ≠ gb507)))))) (fun _ h_ => h_.1)))) k_ hk_), (Kd.fresh' (Kd.N_lt (by (with_reducible repeat (first | apply Kd.N_alloc | apply Kd.N_drewN | apply Kd.N_drew)); exact (Kd.N_mono (nF_ (nF_ (nF_ (Kd.N_mono HO494.out (fun k_ hk => (⟨hk, hk.2⟩ : _ ∧ k_ ≠ gb507)))))) (fun _ h_ => h_.1)))) k_ hk_), (Kd.fresh' (Kd.R_lt (by (with_reducible repeat (first | apply Kd.R_alloc | apply Kd.R_drewN | apply Kd.R_drew)); exact (Kd.R_mono (rF_ (rF_ (rF_ (Kd.R_types HO498.out BK507.out (by decide))))) (fun _ h_ => h_.1)))) k_ hk_), (Kd.fresh' (Kd.N_lt (by (with_reducible repeat (first | apply Kd.N_alloc | apply Kd.N_drewN | apply Kd.N_drew)); exact (Kd.N_mono (nF_ (nF_ (nF_ (Kd.N_mono HO503.out (fun k_ hk => (⟨hk, hk.2⟩ : _ ∧ k_ ≠ gb507)))))) (fun _ h_ => h_.1)))) k_ hk_), (Kd.fresh' (Kd.R_lt (by (with_reducible repeat (first | apply Kd.R_alloc | apply Kd.R_drewN | apply Kd.R_drew)); exact (Kd.R_mono (rF_ (rF_ (rF_ (Kd.R_types HO506.out BK507.out (by decide))))) (fun _ h_ => h_.1)))) k_ hk_), (Kd.freshB (g := gb479) (o := .cells #[.slice Ao26 t471.length co26, .int .i64 t474, .slice Ao28 t475.length co28] 29 (0, 0)) (bF_ (bF_ (bF_ (hK_ BK479.out) NB479_507.out) NB479_507.out) NB479_507.out) k_ hk_), (Kd.freshB (g := gb488) (o := .cells #[.slice Ao31 t480.length co31, .int .i64 t483, .slice Ao34 t484.length co34] 29 (0, 0)) (bF_ (bF_ (bF_ (hK_ BK488.out) NB488_507.out) NB488_507.out) NB488_507.out) k_ hk_), (Kd.freshB (g := gb500) (o := .cells #[.slice Ao39 t492.length co39, .int .i64 t495, .slice Ao43 t496.length co43] 29 (0, 0)) (bF_ (bF_ (bF_ (hK_ BK500.out) NB500_507.out) NB500_507.out) NB500_507.out) k_ hk_), (Kd.freshB (g := gb507) (o := .cells #[.slice Ao48 t501.length co48, .int .i64 0, .slice Ao47 y504.length co47] 29 (0, 0)) (bP_ (bP_ (bP_ (hK_ BK507.out)))) k_ hk_)⟩)) (below_size hC_)); have n11_ := Aside0.mk (blk_below (g := gb479) (o := .cells #[.slice Ao26 t471.length co26, .int .i64 t474, .slice Ao28 t475.length co28] 29 (0, 0)) (bF_ (bF_ (bF_ (hK_ BK479.out) NB479_507.out) NB479_507.out) NB479_507.out) hb); have n12_ := Aside0.mk (blk_below (g := gb488) (o := .cells #[.slice Ao31 t480.length co31, .int .i64 t483, .slice Ao34 t484.length co34] 29 (0, 0)) (bF_ (bF_ (bF_ (hK_ BK488.out) NB488_507.out) NB488_507.out) NB488_507.out) hb); have n13_ := Aside0.mk (blk_below (g := gb500) (o := .cells #[.slice Ao39 t492.length co39, .int .i64 t495, .slice Ao43 t496.length co43] 29 (0, 0)) (bF_ (bF_ (bF_ (hK_ BK500.out) NB500_507.out) NB500_507.out) NB500_507.out) hb); have n14_ := Aside0.mk (blk_below (g := gb507) (o := .cells #[.slice Ao48 t501.length co48, .int .i64 0, .slice Ao47 y504.length co47] 29 (0, 0)) (bP_ (bP_ (bP_ (hK_ BK507.out)))) hb); have n15_ := Aside0.mk (below_step hC_ hb); clear HO470 HO473 HO477 HO482 HO486 HO491 HO494 HO498 HO503 HO506 BK479 BK488 BK500 BK507 HB; have HO470 := n0_; have HO473 := n1_; have HO477 := n2_; have HO482 := n3_; have HO486 := n4_; have HO491 := n5_; have HO494 := n6_; have HO498 := n7_; have HO503 := n8_; have HO506 := n9_; have HO510 := n10_; have BK479 := n11_; have BK488 := n12_; have BK500 := n13_; have BK507 := n14_; have HB := n15_; clear n0_ n1_ n2_ n3_ n4_ n5_ n6_ n7_ n8_ n9_ n10_ n11_ n12_ n13_ n14_ n15_; (try clear hb); (try clear hb2); (try clear hk); (try clear hi); (try clear ho0)) | ((with_reducible refine gate_dst (N := 31) rfl ?_); refine Kd.R_lit k26 _ 26 ?hg (N := 31) ?hd (xs := ([(⟨0, 2⟩ : S26), (⟨2, 1⟩ : S26)] : List (S26))) (inner := [.int .i64 0, .int .i64 2, .int .i64 2, .int .i64 1]) (ok := fun _ => True) (okp := fun _ => True) ?hr ?hp (fun _ hk => hk) trivial (Below.refl _ _) (Nat.le_refl _) (by simp) ?_; (case hd => rfl); (case hg => rfl); (case hr => first | (go_simp; done) | (go_simp; rfl)); (case hp => exact (Reps.c2 (show Kd.M k26 _ _ _ (⟨0, 2⟩ : S26) [.int .i64 0, .int .i64 2] from (k26_mkM _ _ _ (⟨0, 2⟩ : S26) )) (Reps.c2 (show Kd.M k26 _ _ _ (⟨2, 1⟩ : S26) [.int .i64 2, .int .i64 1] from (k26_mkM _ _ _ (⟨2, 1⟩ : S26) )) (Reps.none _ _)))); intro v512 w55 ho56 hb hg_ hnew_; clear hg_ hnew_; (first | rw [← Ny511.out] at ho56 | (simp only [Int.reduceToNat] at ho56; rw [← Ny511.out] at ho56)); have n0_ := Aside0.mk (Kd.N_elder' (hN_ HO470.out) (Kd.R_base ho56) hb); have n1_ := Aside0.mk (Kd.N_elder' (hN_ HO473.out) (Kd.R_base ho56) hb); have n2_ := Aside0.mk (Kd.R_elder' (hR_ HO477.out) (Kd.R_base ho56) hb); have n3_ := Aside0.mk (Kd.N_elder' (hN_ HO482.out) (Kd.R_base ho56) hb); have n4_ := Aside0.mk (Kd.R_elder' (hR_ HO486.out) (Kd.R_base ho56) hb); have n5_ := Aside0.mk (Kd.N_elder' (hN_ HO491.out) (Kd.R_base ho56) hb); have n6_ := Aside0.mk (Kd.N_elder' (hN_ HO494.out) (Kd.R_base ho56) hb); have n7_ := Aside0.mk (Kd.R_elder' (hR_ HO498.out) (Kd.R_base ho56) hb); have n8_ := Aside0.mk (Kd.N_elder' (hN_ HO503.out) (Kd.R_base ho56) hb); have n9_ := Aside0.mk (Kd.R_elder' (hR_ HO506.out) (Kd.R_base ho56) hb); have n10_ := Aside0.mk (Kd.N_elder' (hN_ HO510.out) (Kd.R_base ho56) hb); have n11_ := Aside0.mk (Kd.R_lower (Kd.R_new' (Kd.R_new' (Kd.R_new' (Kd.R_new' ho56 (Kd.R_lt (hR_ HO477.out))) (Kd.R_lt (hR_ HO486.out))) (Kd.R_lt (hR_ HO498.out))) (Kd.R_lt (hR_ HO506.out))) (below_size hC_)); have n12_ := Aside0.mk (bB_ BK479.out hb); have n13_ := Aside0.mk (bB_ BK488.out hb); have n14_ := Aside0.mk (bB_ BK500.out hb); have n15_ := Aside0.mk (bB_ BK507.out hb); have n16_ := Aside0.mk (below_step hC_ hb); clear HO470 HO473 HO477 HO482 HO486 HO491 HO494 HO498 HO503 HO506 HO510 BK479 BK488 BK500 BK507 HB; have HO470 := n0_; have HO473 := n1_; have HO477 := n2_; have HO482 := n3_; have HO486 := n4_; have HO491 := n5_; have HO494 := n6_; have HO498 := n7_; have HO503 := n8_; have HO506 := n9_; have HO510 := n10_; have HO513 := n11_; have BK479 := n12_; have BK488 := n13_; have BK500 := n14_; have BK507 := n15_; have HB := n16_; clear n0_ n1_ n2_ n3_ n4_ n5_ n6_ n7_ n8_ n9_ n10_ n11_ n12_ n13_ n14_ n15_ n16_; clear hb ho56; obtain ⟨Ao57, co57, eo57⟩ := Kd.R_slice HO513.out; subst eo57; obtain ⟨Ao58, co58, eo58⟩ := Kd.N_slice HO510.out; subst eo58) | ((with_reducible refine gate_dst (N := 8) rfl ?_); refine boxE_ 8 #[.slice none 0 0, .int .i64 0, .slice none 0 0] 29 ?_; intro gb514 hg w59 hbox hb; have n0_ := Aside0.mk (Kd.N_below (Kd.N_elderB (hN_ HO470.out) gb514 (Nat.le_of_eq hg.symm)) hb); have n1_ := Aside0.mk (Kd.N_below (Kd.N_elderB (hN_ HO473.out) gb514 (Nat.le_of_eq hg.symm)) hb); have n2_ := Aside0.mk (Kd.R_below (hR_ HO477.out) hb); have n3_ := Aside0.mk (Kd.N_below (Kd.N_elderB (hN_ HO482.out) gb514 (Nat.le_of_eq hg.symm)) hb); have n4_ := Aside0.mk (Kd.R_below (hR_ HO486.out) hb); have n5_ := Aside0.mk (Kd.N_below (Kd.N_elderB (hN_ HO491.out) gb514 (Nat.le_of_eq hg.symm)) hb); have n6_ := Aside0.mk (Kd.N_below (Kd.N_elderB (hN_ HO494.out) gb514 (Nat.le_of_eq hg.symm)) hb); have n7_ := Aside0.mk (Kd.R_below (hR_ HO498.out) hb); have n8_ := Aside0.mk (Kd.N_below (Kd.N_elderB (hN_ HO503.out) gb514 (Nat.le_of_eq hg.symm)) hb); have n9_ := Aside0.mk (Kd.R_below (hR_ HO506.out) hb); have n10_ := Aside0.mk (Kd.N_below (Kd.N_elderB (hN_ HO510.out) gb514 (Nat.le_of_eq hg.symm)) hb); have n11_ := Aside0.mk (Kd.R_below (hR_ HO513.out) hb); have n12_ := Aside0.mk (bB_ BK479.out hb); have n13_ := Aside0.mk (bB_ BK488.out hb); have n14_ := Aside0.mk (bB_ BK500.out hb); have n15_ := Aside0.mk (bB_ BK507.out hb); have n16_ := Aside0.mk (below_step hC_ hb); have n17_ := Aside0.mk (hbox); have n18_ := Aside0.mk ((gE_ hg : w.heap.size ≤ gb514)); have n19_ := Aside0.mk ((gE_ hg : w.heap.size ≤ gb514)); have n20_ := Aside0.mk ((bL_ BK479.out hg : gb479 ≠ gb514)); have n21_ := Aside0.mk ((bG_ BK479.out hg : gb514 ≠ gb479)); have n22_ := Aside0.mk ((bL_ BK488.out hg : gb488 ≠ gb514)); have n23_ := Aside0.mk ((bG_ BK488.out hg : gb514 ≠ gb488)); have n24_ := Aside0.mk ((bL_ BK500.out hg : gb500 ≠ gb514)); have n25_ := Aside0.mk ((bG_ BK500.out hg : gb514 ≠ gb500)); have n26_ := Aside0.mk ((bL_ BK507.out hg : gb507 ≠ gb514)); have n27_ := Aside0.mk ((bG_ BK507.out hg : gb514 ≠ gb507)); clear HO470 HO473 HO477 HO482 HO486 HO491 HO494 HO498 HO503 HO506 HO510 HO513 BK479 BK488 BK500 BK507 HB; have HO470 := n0_; have HO473 := n1_; have HO477 := n2_; have HO482 := n3_; have HO486 := n4_; have HO491 := n5_; have HO494 := n6_; have HO498 := n7_; have HO503 := n8_; have HO506 := n9_; have HO510 := n10_; have HO513 := n11_; have BK479 := n12_; have BK488 := n13_; have BK500 := n14_; have BK507 := n15_; have HB := n16_; have BK514 := n17_; have GW514 := n18_; have GE514 := n19_; have NB479_514 := n20_; have NB514_479 := n21_; have NB488_514 := n22_; have NB514_488 := n23_; have NB500_514 := n24_; have NB514_500 := n25_; have NB507_514 := n26_; have NB514_507 := n27_; clear n0_ n1_ n2_ n3_ n4_ n5_ n6_ n7_ n8_ n9_ n10_ n11_ n12_ n13_ n14_ n15_ n16_ n17_ n18_ n19_ n20_ n21_ n22_ n23_ n24_ n25_ n26_ n27_; clear hb hbox hg; have hnb60 := NB514_479.out; have hnc60 := NB479_514.out; have hnb61 := NB514_488.out; have hnc61 := NB488_514.out; have hnb62 := NB514_500.out; have hnc62 := NB500_514.out; have hnb63 := NB514_507.out; have hnc63 := NB507_514.out; obtain ⟨hcz64_0, hcz64_1, hcz64_2, hfz64_0, hfz64_1, hfz64_2⟩ := bx3_ BK514.out))
  have n0_ : Aside0 (Kd.N k33 33 (((w59.setCell ⟨gb514, 0, none⟩ (.slice Ao58 t508.length co58)).setCell ⟨gb514, 1, none⟩ (.int .i64 0)).setCell ⟨gb514, 2, none⟩ (.slice Ao57 y511.length co57)) w.heap.size (fun k_ => some k_ ≠ (.slice Ao26 t471.length co26 : Value).ownBlock ∧ some k_ ≠ (.slice Ao28 t475.length co28 : Value).ownBlock ∧ some k_ ≠ (.slice Ao31 t480.length co31 : Value).ownBlock ∧ some k_ ≠ (.slice Ao34 t484.length co34 : Value).ownBlock ∧ some k_ ≠ (.slice Ao36 t489.length co36 : Value).ownBlock ∧ some k_ ≠ (.slice Ao39 t492.length co39 : Value).ownBlock ∧ some k_ ≠ (.slice Ao43 t496.length co43 : Value).ownBlock ∧ some k_ ≠ (.slice Ao48 t501.length co48 : Value).ownBlock ∧ some k_ ≠ (.slice Ao47 y504.length co47 : Value).ownBlock ∧ some k_ ≠ (.slice Ao58 t508.length co58 : Value).ownBlock ∧ some k_ ≠ (.slice Ao57 y511.length co57 : Value).ownBlock ∧ k_ ≠ gb479 ∧ k_ ≠ gb488 ∧ k_ ≠ gb500 ∧ k_ ≠ gb507 ∧ k_ ≠ gb514) (.slice Ao23 t468.length co23) t468) := ⟨by (with_reducible repeat (first | apply Kd.N_alloc | apply Kd.N_drewN | apply Kd.N_drew)); exact Kd.N_mono (nF_ (nF_ (nF_ (Kd.N_mono HO470.out (fun k_ hk => (⟨hk, hk.2⟩ : _ ∧ k_ ≠ gb514)))))) (fun _ hk => ⟨hk.1.1.1.1.1.1.1.1.1.1.1.1.1.1.1.1.2, ⟨hk.1.1.1.1.1.1.1.1.1.1.1.1.1.1.1.2, ⟨hk.1.1.1.1.1.1.1.1.1.1.1.1.1.2, ⟨hk.1.1.1.1.1.1.1.1.1.1.1.1.2, ⟨hk.1.1.1.1.1.1.1.1.1.1.2, ⟨hk.1.1.1.1.1.1.1.1.1.2, ⟨hk.1.1.1.1.1.1.1.1.2, ⟨hk.1.1.1.1.1.1.2, ⟨hk.1.1.1.1.1.2, ⟨hk.1.1.1.2, ⟨hk.1.1.2, ⟨hk.1.1.1.1.1.1.1.1.1.1.1.1.1.1.2, ⟨hk.1.1.1.1.1.1.1.1.1.1.1.2, ⟨hk.1.1.1.1.1.1.1.2, ⟨hk.1.1.1.1.2, hk.1.2⟩⟩⟩⟩⟩⟩⟩⟩⟩⟩⟩⟩⟩⟩⟩)⟩
  have n1_ : Aside0 (Kd.N k33 33 (((w59.setCell ⟨gb514, 0, none⟩ (.slice Ao58 t508.length co58)).setCell ⟨gb514, 1, none⟩ (.int .i64 0)).setCell ⟨gb514, 2, none⟩ (.slice Ao57 y511.length co57)) w.heap.size (fun k_ => some k_ ≠ (.slice Ao23 t468.length co23 : Value).ownBlock ∧ some k_ ≠ (.slice Ao28 t475.length co28 : Value).ownBlock ∧ some k_ ≠ (.slice Ao31 t480.length co31 : Value).ownBlock ∧ some k_ ≠ (.slice Ao34 t484.length co34 : Value).ownBlock ∧ some k_ ≠ (.slice Ao36 t489.length co36 : Value).ownBlock ∧ some k_ ≠ (.slice Ao39 t492.length co39 : Value).ownBlock ∧ some k_ ≠ (.slice Ao43 t496.length co43 : Value).ownBlock ∧ some k_ ≠ (.slice Ao48 t501.length co48 : Value).ownBlock ∧ some k_ ≠ (.slice Ao47 y504.length co47 : Value).ownBlock ∧ some k_ ≠ (.slice Ao58 t508.length co58 : Value).ownBlock ∧ some k_ ≠ (.slice Ao57 y511.length co57 : Value).ownBlock ∧ k_ ≠ gb479 ∧ k_ ≠ gb488 ∧ k_ ≠ gb500 ∧ k_ ≠ gb507 ∧ k_ ≠ gb514) (.slice Ao26 t471.length co26) t471) := ⟨by (with_reducible repeat (first | apply Kd.N_alloc | apply Kd.N_drewN | apply Kd.N_drew)); exact Kd.N_mono (nF_ (nF_ (nF_ (Kd.N_mono HO473.out (fun k_ hk => (⟨hk, hk.2⟩ : _ ∧ k_ ≠ gb514)))))) (fun _ hk => ⟨hk.1.1.1.1.1.1.1.1.1.1.1.1.1.1.1.2, ⟨hk.1.1.1.1.1.1.1.1.1.1.1.1.1.1.1.1, ⟨hk.1.1.1.1.1.1.1.1.1.1.1.1.1.2, ⟨hk.1.1.1.1.1.1.1.1.1.1.1.1.2, ⟨hk.1.1.1.1.1.1.1.1.1.1.2, ⟨hk.1.1.1.1.1.1.1.1.1.2, ⟨hk.1.1.1.1.1.1.1.1.2, ⟨hk.1.1.1.1.1.1.2, ⟨hk.1.1.1.1.1.2, ⟨hk.1.1.1.2, ⟨hk.1.1.2, ⟨hk.1.1.1.1.1.1.1.1.1.1.1.1.1.1.2, ⟨hk.1.1.1.1.1.1.1.1.1.1.1.2, ⟨hk.1.1.1.1.1.1.1.2, ⟨hk.1.1.1.1.2, hk.1.2⟩⟩⟩⟩⟩⟩⟩⟩⟩⟩⟩⟩⟩⟩⟩)⟩
  have n2_ : Aside0 (Kd.R k26 26 (((w59.setCell ⟨gb514, 0, none⟩ (.slice Ao58 t508.length co58)).setCell ⟨gb514, 1, none⟩ (.int .i64 0)).setCell ⟨gb514, 2, none⟩ (.slice Ao57 y511.length co57)) w.heap.size (fun k_ => some k_ ≠ (.slice Ao34 t484.length co34 : Value).ownBlock ∧ some k_ ≠ (.slice Ao43 t496.length co43 : Value).ownBlock ∧ some k_ ≠ (.slice Ao47 y504.length co47 : Value).ownBlock ∧ some k_ ≠ (.slice Ao57 y511.length co57 : Value).ownBlock) (.slice Ao28 t475.length co28) t475) := ⟨by (with_reducible repeat (first | apply Kd.R_alloc | apply Kd.R_drewN | apply Kd.R_drew)); exact Kd.R_mono (rF_ (rF_ (rF_ (Kd.R_types HO477.out BK514.out (by decide))))) (fun _ hk => ⟨hk.1.1.1.1.2, ⟨hk.1.1.1.2, ⟨hk.1.1.2, hk.1.2⟩⟩⟩)⟩
  have n3_ : Aside0 (Kd.N k33 33 (((w59.setCell ⟨gb514, 0, none⟩ (.slice Ao58 t508.length co58)).setCell ⟨gb514, 1, none⟩ (.int .i64 0)).setCell ⟨gb514, 2, none⟩ (.slice Ao57 y511.length co57)) w.heap.size (fun k_ => some k_ ≠ (.slice Ao23 t468.length co23 : Value).ownBlock ∧ some k_ ≠ (.slice Ao26 t471.length co26 : Value).ownBlock ∧ some k_ ≠ (.slice Ao28 t475.length co28 : Value).ownBlock ∧ some k_ ≠ (.slice Ao34 t484.length co34 : Value).ownBlock ∧ some k_ ≠ (.slice Ao36 t489.length co36 : Value).ownBlock ∧ some k_ ≠ (.slice Ao39 t492.length co39 : Value).ownBlock ∧ some k_ ≠ (.slice Ao43 t496.length co43 : Value).ownBlock ∧ some k_ ≠ (.slice Ao48 t501.length co48 : Value).ownBlock ∧ some k_ ≠ (.slice Ao47 y504.length co47 : Value).ownBlock ∧ some k_ ≠ (.slice Ao58 t508.length co58 : Value).ownBlock ∧ some k_ ≠ (.slice Ao57 y511.length co57 : Value).ownBlock ∧ k_ ≠ gb479 ∧ k_ ≠ gb488 ∧ k_ ≠ gb500 ∧ k_ ≠ gb507 ∧ k_ ≠ gb514) (.slice Ao31 t480.length co31) t480) := ⟨by (with_reducible repeat (first | apply Kd.N_alloc | apply Kd.N_drewN | apply Kd.N_drew)); exact Kd.N_mono (nF_ (nF_ (nF_ (Kd.N_mono HO482.out (fun k_ hk => (⟨hk, hk.2⟩ : _ ∧ k_ ≠ gb514)))))) (fun _ hk => ⟨hk.1.1.1.1.1.1.1.1.1.1.1.1.2.1, ⟨hk.1.1.1.1.1.1.1.1.1.1.1.1.2.2.1, ⟨hk.1.1.1.1.1.1.1.1.1.1.1.1.2.2.2.1, ⟨hk.1.1.1.1.1.1.1.1.1.1.1.1.1, ⟨hk.1.1.1.1.1.1.1.1.1.1.2, ⟨hk.1.1.1.1.1.1.1.1.1.2, ⟨hk.1.1.1.1.1.1.1.1.2, ⟨hk.1.1.1.1.1.1.2, ⟨hk.1.1.1.1.1.2, ⟨hk.1.1.1.2, ⟨hk.1.1.2, ⟨hk.1.1.1.1.1.1.1.1.1.1.1.1.2.2.2.2, ⟨hk.1.1.1.1.1.1.1.1.1.1.1.2, ⟨hk.1.1.1.1.1.1.1.2, ⟨hk.1.1.1.1.2, hk.1.2⟩⟩⟩⟩⟩⟩⟩⟩⟩⟩⟩⟩⟩⟩⟩)⟩
  have n4_ : Aside0 (Kd.R k26 26 (((w59.setCell ⟨gb514, 0, none⟩ (.slice Ao58 t508.length co58)).setCell ⟨gb514, 1, none⟩ (.int .i64 0)).setCell ⟨gb514, 2, none⟩ (.slice Ao57 y511.length co57)) w.heap.size (fun k_ => some k_ ≠ (.slice Ao28 t475.length co28 : Value).ownBlock ∧ some k_ ≠ (.slice Ao43 t496.length co43 : Value).ownBlock ∧ some k_ ≠ (.slice Ao47 y504.length co47 : Value).ownBlock ∧ some k_ ≠ (.slice Ao57 y511.length co57 : Value).ownBlock) (.slice Ao34 t484.length co34) t484) := ⟨by (with_reducible repeat (first | apply Kd.R_alloc | apply Kd.R_drewN | apply Kd.R_drew)); exact Kd.R_mono (rF_ (rF_ (rF_ (Kd.R_types HO486.out BK514.out (by decide))))) (fun _ hk => ⟨hk.1.1.1.1.2, ⟨hk.1.1.1.2, ⟨hk.1.1.2, hk.1.2⟩⟩⟩)⟩
  have n5_ : Aside0 (Kd.N k33 33 (((w59.setCell ⟨gb514, 0, none⟩ (.slice Ao58 t508.length co58)).setCell ⟨gb514, 1, none⟩ (.int .i64 0)).setCell ⟨gb514, 2, none⟩ (.slice Ao57 y511.length co57)) w.heap.size (fun k_ => some k_ ≠ (.slice Ao23 t468.length co23 : Value).ownBlock ∧ some k_ ≠ (.slice Ao26 t471.length co26 : Value).ownBlock ∧ some k_ ≠ (.slice Ao28 t475.length co28 : Value).ownBlock ∧ some k_ ≠ (.slice Ao31 t480.length co31 : Value).ownBlock ∧ some k_ ≠ (.slice Ao34 t484.length co34 : Value).ownBlock ∧ some k_ ≠ (.slice Ao39 t492.length co39 : Value).ownBlock ∧ some k_ ≠ (.slice Ao43 t496.length co43 : Value).ownBlock ∧ some k_ ≠ (.slice Ao48 t501.length co48 : Value).ownBlock ∧ some k_ ≠ (.slice Ao47 y504.length co47 : Value).ownBlock ∧ some k_ ≠ (.slice Ao58 t508.length co58 : Value).ownBlock ∧ some k_ ≠ (.slice Ao57 y511.length co57 : Value).ownBlock ∧ k_ ≠ gb479 ∧ k_ ≠ gb488 ∧ k_ ≠ gb500 ∧ k_ ≠ gb507 ∧ k_ ≠ gb514) (.slice Ao36 t489.length co36) t489) := ⟨by (with_reducible repeat (first | apply Kd.N_alloc | apply Kd.N_drewN | apply Kd.N_drew)); exact Kd.N_mono (nF_ (nF_ (nF_ (Kd.N_mono HO491.out (fun k_ hk => (⟨hk, hk.2⟩ : _ ∧ k_ ≠ gb514)))))) (fun _ hk => ⟨hk.1.1.1.1.1.1.1.1.1.1.1, ⟨hk.1.1.1.1.1.1.1.1.1.1.2.1, ⟨hk.1.1.1.1.1.1.1.1.1.1.2.2.1, ⟨hk.1.1.1.1.1.1.1.1.1.1.2.2.2.1, ⟨hk.1.1.1.1.1.1.1.1.1.1.2.2.2.2.1, ⟨hk.1.1.1.1.1.1.1.1.1.2, ⟨hk.1.1.1.1.1.1.1.1.2, ⟨hk.1.1.1.1.1.1.2, ⟨hk.1.1.1.1.1.2, ⟨hk.1.1.1.2, ⟨hk.1.1.2, ⟨hk.1.1.1.1.1.1.1.1.1.1.2.2.2.2.2.1, ⟨hk.1.1.1.1.1.1.1.1.1.1.2.2.2.2.2.2, ⟨hk.1.1.1.1.1.1.1.2, ⟨hk.1.1.1.1.2, hk.1.2⟩⟩⟩⟩⟩⟩⟩⟩⟩⟩⟩⟩⟩⟩⟩)⟩
  have n6_ : Aside0 (Kd.N k33 33 (((w59.setCell ⟨gb514, 0, none⟩ (.slice Ao58 t508.length co58)).setCell ⟨gb514, 1, none⟩ (.int .i64 0)).setCell ⟨gb514, 2, none⟩ (.slice Ao57 y511.length co57)) w.heap.size (fun k_ => some k_ ≠ (.slice Ao23 t468.length co23 : Value).ownBlock ∧ some k_ ≠ (.slice Ao26 t471.length co26 : Value).ownBlock ∧ some k_ ≠ (.slice Ao28 t475.length co28 : Value).ownBlock ∧ some k_ ≠ (.slice Ao31 t480.length co31 : Value).ownBlock ∧ some k_ ≠ (.slice Ao34 t484.length co34 : Value).ownBlock ∧ some k_ ≠ (.slice Ao36 t489.length co36 : Value).ownBlock ∧ some k_ ≠ (.slice Ao43 t496.length co43 : Value).ownBlock ∧ some k_ ≠ (.slice Ao48 t501.length co48 : Value).ownBlock ∧ some k_ ≠ (.slice Ao47 y504.length co47 : Value).ownBlock ∧ some k_ ≠ (.slice Ao58 t508.length co58 : Value).ownBlock ∧ some k_ ≠ (.slice Ao57 y511.length co57 : Value).ownBlock ∧ k_ ≠ gb479 ∧ k_ ≠ gb488 ∧ k_ ≠ gb500 ∧ k_ ≠ gb507 ∧ k_ ≠ gb514) (.slice Ao39 t492.length co39) t492) := ⟨by (with_reducible repeat (first | apply Kd.N_alloc | apply Kd.N_drewN | apply Kd.N_drew)); exact Kd.N_mono (nF_ (nF_ (nF_ (Kd.N_mono HO494.out (fun k_ hk => (⟨hk, hk.2⟩ : _ ∧ k_ ≠ gb514)))))) (fun _ hk => ⟨hk.1.1.1.1.1.1.1.1.2.1, ⟨hk.1.1.1.1.1.1.1.1.2.2.1, ⟨hk.1.1.1.1.1.1.1.1.2.2.2.1, ⟨hk.1.1.1.1.1.1.1.1.2.2.2.2.1, ⟨hk.1.1.1.1.1.1.1.1.2.2.2.2.2.1, ⟨hk.1.1.1.1.1.1.1.1.2.2.2.2.2.2.1, ⟨hk.1.1.1.1.1.1.1.1.1, ⟨hk.1.1.1.1.1.1.2, ⟨hk.1.1.1.1.1.2, ⟨hk.1.1.1.2, ⟨hk.1.1.2, ⟨hk.1.1.1.1.1.1.1.1.2.2.2.2.2.2.2.1, ⟨hk.1.1.1.1.1.1.1.1.2.2.2.2.2.2.2.2, ⟨hk.1.1.1.1.1.1.1.2, ⟨hk.1.1.1.1.2, hk.1.2⟩⟩⟩⟩⟩⟩⟩⟩⟩⟩⟩⟩⟩⟩⟩)⟩
  have n7_ : Aside0 (Kd.R k26 26 (((w59.setCell ⟨gb514, 0, none⟩ (.slice Ao58 t508.length co58)).setCell ⟨gb514, 1, none⟩ (.int .i64 0)).setCell ⟨gb514, 2, none⟩ (.slice Ao57 y511.length co57)) w.heap.size (fun k_ => some k_ ≠ (.slice Ao28 t475.length co28 : Value).ownBlock ∧ some k_ ≠ (.slice Ao34 t484.length co34 : Value).ownBlock ∧ some k_ ≠ (.slice Ao47 y504.length co47 : Value).ownBlock ∧ some k_ ≠ (.slice Ao57 y511.length co57 : Value).ownBlock) (.slice Ao43 t496.length co43) t496) := ⟨by (with_reducible repeat (first | apply Kd.R_alloc | apply Kd.R_drewN | apply Kd.R_drew)); exact Kd.R_mono (rF_ (rF_ (rF_ (Kd.R_types HO498.out BK514.out (by decide))))) (fun _ hk => ⟨hk.1.1.1.1.2, ⟨hk.1.1.1.2, ⟨hk.1.1.2, hk.1.2⟩⟩⟩)⟩
  have n8_ : Aside0 (Kd.N k33 33 (((w59.setCell ⟨gb514, 0, none⟩ (.slice Ao58 t508.length co58)).setCell ⟨gb514, 1, none⟩ (.int .i64 0)).setCell ⟨gb514, 2, none⟩ (.slice Ao57 y511.length co57)) w.heap.size (fun k_ => some k_ ≠ (.slice Ao23 t468.length co23 : Value).ownBlock ∧ some k_ ≠ (.slice Ao26 t471.length co26 : Value).ownBlock ∧ some k_ ≠ (.slice Ao28 t475.length co28 : Value).ownBlock ∧ some k_ ≠ (.slice Ao31 t480.length co31 : Value).ownBlock ∧ some k_ ≠ (.slice Ao34 t484.length co34 : Value).ownBlock ∧ some k_ ≠ (.slice Ao36 t489.length co36 : Value).ownBlock ∧ some k_ ≠ (.slice Ao39 t492.length co39 : Value).ownBlock ∧ some k_ ≠ (.slice Ao43 t496.length co43 : Value).ownBlock ∧ some k_ ≠ (.slice Ao47 y504.length co47 : Value).ownBlock ∧ some k_ ≠ (.slice Ao58 t508.length co58 : Value).ownBlock ∧ some k_ ≠ (.slice Ao57 y511.length co57 : Value).ownBlock ∧ k_ ≠ gb479 ∧ k_ ≠ gb488 ∧ k_ ≠ gb500 ∧ k_ ≠ gb507 ∧ k_ ≠ gb514) (.slice Ao48 t501.length co48) t501) := ⟨by (with_reducible repeat (first | apply Kd.N_alloc | apply Kd.N_drewN | apply Kd.N_drew)); exact Kd.N_mono (nF_ (nF_ (nF_ (Kd.N_mono HO503.out (fun k_ hk => (⟨hk, hk.2⟩ : _ ∧ k_ ≠ gb514)))))) (fun _ hk => ⟨hk.1.1.1.1.1.1.1, ⟨hk.1.1.1.1.1.1.2.1, ⟨hk.1.1.1.1.1.1.2.2.1, ⟨hk.1.1.1.1.1.1.2.2.2.1, ⟨hk.1.1.1.1.1.1.2.2.2.2.1, ⟨hk.1.1.1.1.1.1.2.2.2.2.2.1, ⟨hk.1.1.1.1.1.1.2.2.2.2.2.2.1, ⟨hk.1.1.1.1.1.1.2.2.2.2.2.2.2.1, ⟨hk.1.1.1.1.1.2, ⟨hk.1.1.1.2, ⟨hk.1.1.2, ⟨hk.1.1.1.1.1.1.2.2.2.2.2.2.2.2.1, ⟨hk.1.1.1.1.1.1.2.2.2.2.2.2.2.2.2.1, ⟨hk.1.1.1.1.1.1.2.2.2.2.2.2.2.2.2.2, ⟨hk.1.1.1.1.2, hk.1.2⟩⟩⟩⟩⟩⟩⟩⟩⟩⟩⟩⟩⟩⟩⟩)⟩
  have n9_ : Aside0 (Kd.R k26 26 (((w59.setCell ⟨gb514, 0, none⟩ (.slice Ao58 t508.length co58)).setCell ⟨gb514, 1, none⟩ (.int .i64 0)).setCell ⟨gb514, 2, none⟩ (.slice Ao57 y511.length co57)) w.heap.size (fun k_ => some k_ ≠ (.slice Ao28 t475.length co28 : Value).ownBlock ∧ some k_ ≠ (.slice Ao34 t484.length co34 : Value).ownBlock ∧ some k_ ≠ (.slice Ao43 t496.length co43 : Value).ownBlock ∧ some k_ ≠ (.slice Ao57 y511.length co57 : Value).ownBlock) (.slice Ao47 y504.length co47) y504) := ⟨by (with_reducible repeat (first | apply Kd.R_alloc | apply Kd.R_drewN | apply Kd.R_drew)); exact Kd.R_mono (rF_ (rF_ (rF_ (Kd.R_types HO506.out BK514.out (by decide))))) (fun _ hk => ⟨hk.1.1.1.1.2, ⟨hk.1.1.1.2, ⟨hk.1.1.2, hk.1.2⟩⟩⟩)⟩
  have n10_ : Aside0 (Kd.N k33 33 (((w59.setCell ⟨gb514, 0, none⟩ (.slice Ao58 t508.length co58)).setCell ⟨gb514, 1, none⟩ (.int .i64 0)).setCell ⟨gb514, 2, none⟩ (.slice Ao57 y511.length co57)) w.heap.size (fun k_ => some k_ ≠ (.slice Ao23 t468.length co23 : Value).ownBlock ∧ some k_ ≠ (.slice Ao26 t471.length co26 : Value).ownBlock ∧ some k_ ≠ (.slice Ao28 t475.length co28 : Value).ownBlock ∧ some k_ ≠ (.slice Ao31 t480.length co31 : Value).ownBlock ∧ some k_ ≠ (.slice Ao34 t484.length co34 : Value).ownBlock ∧ some k_ ≠ (.slice Ao36 t489.length co36 : Value).ownBlock ∧ some k_ ≠ (.slice Ao39 t492.length co39 : Value).ownBlock ∧ some k_ ≠ (.slice Ao43 t496.length co43 : Value).ownBlock ∧ some k_ ≠ (.slice Ao48 t501.length co48 : Value).ownBlock ∧ some k_ ≠ (.slice Ao47 y504.length co47 : Value).ownBlock ∧ some k_ ≠ (.slice Ao57 y511.length co57 : Value).ownBlock ∧ k_ ≠ gb479 ∧ k_ ≠ gb488 ∧ k_ ≠ gb500 ∧ k_ ≠ gb507 ∧ k_ ≠ gb514) (.slice Ao58 t508.length co58) t508) := ⟨by (with_reducible repeat (first | apply Kd.N_alloc | apply Kd.N_drewN | apply Kd.N_drew)); exact Kd.N_mono (nF_ (nF_ (nF_ (Kd.N_mono HO510.out (fun k_ hk => (⟨hk, hk.2⟩ : _ ∧ k_ ≠ gb514)))))) (fun _ hk => ⟨hk.1.1.1.1, ⟨hk.1.1.1.2.1, ⟨hk.1.1.1.2.2.1, ⟨hk.1.1.1.2.2.2.1, ⟨hk.1.1.1.2.2.2.2.1, ⟨hk.1.1.1.2.2.2.2.2.1, ⟨hk.1.1.1.2.2.2.2.2.2.1, ⟨hk.1.1.1.2.2.2.2.2.2.2.1, ⟨hk.1.1.1.2.2.2.2.2.2.2.2.1, ⟨hk.1.1.1.2.2.2.2.2.2.2.2.2.1, ⟨hk.1.1.2, ⟨hk.1.1.1.2.2.2.2.2.2.2.2.2.2.1, ⟨hk.1.1.1.2.2.2.2.2.2.2.2.2.2.2.1, ⟨hk.1.1.1.2.2.2.2.2.2.2.2.2.2.2.2.1, ⟨hk.1.1.1.2.2.2.2.2.2.2.2.2.2.2.2.2, hk.1.2⟩⟩⟩⟩⟩⟩⟩⟩⟩⟩⟩⟩⟩⟩⟩)⟩
  have n11_ : Aside0 (Kd.R k26 26 (((w59.setCell ⟨gb514, 0, none⟩ (.slice Ao58 t508.length co58)).setCell ⟨gb514, 1, none⟩ (.int .i64 0)).setCell ⟨gb514, 2, none⟩ (.slice Ao57 y511.length co57)) w.heap.size (fun k_ => some k_ ≠ (.slice Ao28 t475.length co28 : Value).ownBlock ∧ some k_ ≠ (.slice Ao34 t484.length co34 : Value).ownBlock ∧ some k_ ≠ (.slice Ao43 t496.length co43 : Value).ownBlock ∧ some k_ ≠ (.slice Ao47 y504.length co47 : Value).ownBlock) (.slice Ao57 y511.length co57) y511) := ⟨by (with_reducible repeat (first | apply Kd.R_alloc | apply Kd.R_drewN | apply Kd.R_drew)); exact Kd.R_mono (rF_ (rF_ (rF_ (Kd.R_types HO513.out BK514.out (by decide))))) (fun _ hk => ⟨hk.1.1.1.1.2, ⟨hk.1.1.1.2, ⟨hk.1.1.2, hk.1.2⟩⟩⟩)⟩
  have n12_ : Aside0 ((((w59.setCell ⟨gb514, 0, none⟩ (.slice Ao58 t508.length co58)).setCell ⟨gb514, 1, none⟩ (.int .i64 0)).setCell ⟨gb514, 2, none⟩ (.slice Ao57 y511.length co57)).heap[gb479]? = some (.cells #[.slice Ao26 t471.length co26, .int .i64 t474, .slice Ao28 t475.length co28] 29 (0, 0))) := ⟨(bF_ (bF_ (bF_ (hK_ BK479.out) NB479_514.out) NB479_514.out) NB479_514.out)⟩
  have n13_ : Aside0 ((((w59.setCell ⟨gb514, 0, none⟩ (.slice Ao58 t508.length co58)).setCell ⟨gb514, 1, none⟩ (.int .i64 0)).setCell ⟨gb514, 2, none⟩ (.slice Ao57 y511.length co57)).heap[gb488]? = some (.cells #[.slice Ao31 t480.length co31, .int .i64 t483, .slice Ao34 t484.length co34] 29 (0, 0))) := ⟨(bF_ (bF_ (bF_ (hK_ BK488.out) NB488_514.out) NB488_514.out) NB488_514.out)⟩
  have n14_ : Aside0 ((((w59.setCell ⟨gb514, 0, none⟩ (.slice Ao58 t508.length co58)).setCell ⟨gb514, 1, none⟩ (.int .i64 0)).setCell ⟨gb514, 2, none⟩ (.slice Ao57 y511.length co57)).heap[gb500]? = some (.cells #[.slice Ao39 t492.length co39, .int .i64 t495, .slice Ao43 t496.length co43] 29 (0, 0))) := ⟨(bF_ (bF_ (bF_ (hK_ BK500.out) NB500_514.out) NB500_514.out) NB500_514.out)⟩
  have n15_ : Aside0 ((((w59.setCell ⟨gb514, 0, none⟩ (.slice Ao58 t508.length co58)).setCell ⟨gb514, 1, none⟩ (.int .i64 0)).setCell ⟨gb514, 2, none⟩ (.slice Ao57 y511.length co57)).heap[gb507]? = some (.cells #[.slice Ao48 t501.length co48, .int .i64 0, .slice Ao47 y504.length co47] 29 (0, 0))) := ⟨(bF_ (bF_ (bF_ (hK_ BK507.out) NB507_514.out) NB507_514.out) NB507_514.out)⟩
  have n16_ : Aside0 ((((w59.setCell ⟨gb514, 0, none⟩ (.slice Ao58 t508.length co58)).setCell ⟨gb514, 1, none⟩ (.int .i64 0)).setCell ⟨gb514, 2, none⟩ (.slice Ao57 y511.length co57)).heap[gb514]? = some (.cells #[.slice Ao58 t508.length co58, .int .i64 0, .slice Ao57 y511.length co57] 29 (0, 0))) := ⟨(bP_ (bP_ (bP_ (hK_ BK514.out))))⟩
  have n17_ : Aside0 (Below w.heap.size w (((w59.setCell ⟨gb514, 0, none⟩ (.slice Ao58 t508.length co58)).setCell ⟨gb514, 1, none⟩ (.int .i64 0)).setCell ⟨gb514, 2, none⟩ (.slice Ao57 y511.length co57))) := ⟨hC_⟩
  (try clear HO470)
  (try clear HO473)
  (try clear HO477)
  (try clear HO482)
  (try clear HO486)
  (try clear HO491)
  (try clear HO494)
  (try clear HO498)
  (try clear HO503)
  (try clear HO506)
  (try clear HO510)
  (try clear HO513)
  (try clear BK479)
  (try clear BK488)
  (try clear BK500)
  (try clear BK507)
  (try clear BK514)
  (try clear HB)
  generalize (((w59.setCell ⟨gb514, 0, none⟩ (.slice Ao58 t508.length co58)).setCell ⟨gb514, 1, none⟩ (.int .i64 0)).setCell ⟨gb514, 2, none⟩ (.slice Ao57 y511.length co57)) = w65 at n0_ n1_ n2_ n3_ n4_ n5_ n6_ n7_ n8_ n9_ n10_ n11_ n12_ n13_ n14_ n15_ n16_ n17_ ⊢
  have HO470 := n0_
  have HO473 := n1_
  have HO477 := n2_
  have HO482 := n3_
  have HO486 := n4_
  have HO491 := n5_
  have HO494 := n6_
  have HO498 := n7_
  have HO503 := n8_
  have HO506 := n9_
  have HO510 := n10_
  have HO513 := n11_
  have BK479 := n12_
  have BK488 := n13_
  have BK500 := n14_
  have BK507 := n15_
  have BK514 := n16_
  have HB := n17_
  clear n0_ n1_ n2_ n3_ n4_ n5_ n6_ n7_ n8_ n9_ n10_ n11_ n12_ n13_ n14_ n15_ n16_ n17_
  have n0_ := Aside0.mk (Kd.N_drew HO470.out)
  have n1_ := Aside0.mk (Kd.N_drew HO473.out)
  have n2_ := Aside0.mk (Kd.R_drew HO477.out)
  have n3_ := Aside0.mk (Kd.N_drew HO482.out)
  have n4_ := Aside0.mk (Kd.R_drew HO486.out)
  have n5_ := Aside0.mk (Kd.N_drew HO491.out)
  have n6_ := Aside0.mk (Kd.N_drew HO494.out)
  have n7_ := Aside0.mk (Kd.R_drew HO498.out)
  have n8_ := Aside0.mk (Kd.N_drew HO503.out)
  have n9_ := Aside0.mk (Kd.R_drew HO506.out)
  have n10_ := Aside0.mk (Kd.N_drew HO510.out)
  have n11_ := Aside0.mk (Kd.R_drew HO513.out)
  have n12_ := Aside0.mk (blk_drew BK479.out)
  have n13_ := Aside0.mk (blk_drew BK488.out)
  have n14_ := Aside0.mk (blk_drew BK500.out)
  have n15_ := Aside0.mk (blk_drew BK507.out)
  have n16_ := Aside0.mk (blk_drew BK514.out)
  have n17_ := Aside0.mk (below_drew1 HB.out)
  clear HO470
  clear HO473
  clear HO477
  clear HO482
  clear HO486
  clear HO491
  clear HO494
  clear HO498
  clear HO503
  clear HO506
  clear HO510
  clear HO513
  clear BK479
  clear BK488
  clear BK500
  clear BK507
  clear BK514
  clear HB
  have HO470 := n0_
  have HO473 := n1_
  have HO477 := n2_
  have HO482 := n3_
  have HO486 := n4_
  have HO491 := n5_
  have HO494 := n6_
  have HO498 := n7_
  have HO503 := n8_
  have HO506 := n9_
  have HO510 := n10_
  have HO513 := n11_
  have BK479 := n12_
  have BK488 := n13_
  have BK500 := n14_
  have BK507 := n15_
  have BK514 := n16_
  have HB := n17_
  clear n0_ n1_ n2_ n3_ n4_ n5_ n6_ n7_ n8_ n9_ n10_ n11_ n12_ n13_ n14_ n15_ n16_ n17_
  refine start_ (n := 33) (S := fun w' => w'.cell? ⟨gb479, 0, none⟩ = some (.slice Ao26 t471.length co26) ∧ w'.cell? ⟨gb479, 1, none⟩ = some (.int .i64 t474) ∧ w'.cell? ⟨gb479, 2, none⟩ = some (.slice Ao28 t475.length co28) ∧ w'.cell? ⟨gb507, 0, none⟩ = some (.slice Ao48 t501.length co48) ∧ w'.cell? ⟨gb507, 1, none⟩ = some (.int .i64 0) ∧ w'.cell? ⟨gb507, 2, none⟩ = some (.slice Ao47 y504.length co47) ∧ w'.cell? ⟨gb514, 0, none⟩ = some (.slice Ao58 t508.length co58) ∧ w'.cell? ⟨gb514, 1, none⟩ = some (.int .i64 0) ∧ w'.cell? ⟨gb514, 2, none⟩ = some (.slice Ao57 y511.length co57)) (ds := []) #[false, false, false, false, false, false, false, false, false, false, false, false, false, false, false, false, false, false, false, false, false, false, false, false, false, false, false, false, false, false, false, false, false] (by kernel_rfl) rfl rfl ⟨(blk_cell BK479.out 0).trans rfl, (blk_cell BK479.out 1).trans rfl, (blk_cell BK479.out 2).trans rfl, (blk_cell BK507.out 0).trans rfl, (blk_cell BK507.out 1).trans rfl, (blk_cell BK507.out 2).trans rfl, (blk_cell BK514.out 0).trans rfl, (blk_cell BK514.out 1).trans rfl, (blk_cell BK514.out 2).trans rfl⟩ (fun hHeld => ?_); refine with_tabW sleuthlaw21_awake.tab6 sleuthlaw21_awake.bits6 (fun HT_ HW_ => ?_)
  generalize w65.drew = w66 at HO470 HO473 HO477 HO482 HO486 HO491 HO494 HO498 HO503 HO506 HO510 HO513 BK479 BK488 BK500 BK507 BK514 HB hHeld ⊢
  refine tA_ 0 33 #[true, false, false, false, false, false, false, false, false, false, false, false, false, false, false, false, false, false, false, false, false, false, false, false, false, false, false, false, false, false, false, false, false] HT_.out HW_.out hHeld ?_
  refine one_ (i := 1) (N := some 34) #[true, true, false, false, false, false, false, false, false, false, false, false, false, false, false, false, false, false, false, false, false, false, false, false, false, false, false, false, false, false, false, false, false] rfl rfl (one_of HT_.out (by kernel_rfl)) (by decide) (fun K hK => ?_)
  refine goes_ Tryd.func15 (by kernel_rfl) rfl #[] (by rfl) rfl rfl hL_ ?_
  with_reducible refine (sleuthlaw21_some.calls  t515 _ A8.out).mono ?_
  rintro e w67 ⟨v516, rfl, ho0, hb⟩
  refine ⟨_, rfl, ?_⟩
  have n0_ := Aside0.mk (Kd.N_elder' (hN_ HO470.out) (Kd.N_base ho0) hb)
  have n1_ := Aside0.mk (Kd.N_elder' (hN_ HO473.out) (Kd.N_base ho0) hb)
  have n2_ := Aside0.mk (Kd.R_below (hR_ HO477.out) hb)
  have n3_ := Aside0.mk (Kd.N_elder' (hN_ HO482.out) (Kd.N_base ho0) hb)
  have n4_ := Aside0.mk (Kd.R_below (hR_ HO486.out) hb)
  have n5_ := Aside0.mk (Kd.N_elder' (hN_ HO491.out) (Kd.N_base ho0) hb)
  have n6_ := Aside0.mk (Kd.N_elder' (hN_ HO494.out) (Kd.N_base ho0) hb)
  have n7_ := Aside0.mk (Kd.R_below (hR_ HO498.out) hb)
  have n8_ := Aside0.mk (Kd.N_elder' (hN_ HO503.out) (Kd.N_base ho0) hb)
  have n9_ := Aside0.mk (Kd.R_below (hR_ HO506.out) hb)
  have n10_ := Aside0.mk (Kd.N_elder' (hN_ HO510.out) (Kd.N_base ho0) hb)
  have n11_ := Aside0.mk (Kd.R_below (hR_ HO513.out) hb)
  have n12_ := Aside0.mk (Kd.N_lower (Kd.N_mono (ok' := fun k_ => some k_ ≠ (.slice Ao23 t468.length co23 : Value).ownBlock ∧ some k_ ≠ (.slice Ao26 t471.length co26 : Value).ownBlock ∧ some k_ ≠ (.slice Ao28 t475.length co28 : Value).ownBlock ∧ some k_ ≠ (.slice Ao31 t480.length co31 : Value).ownBlock ∧ some k_ ≠ (.slice Ao34 t484.length co34 : Value).ownBlock ∧ some k_ ≠ (.slice Ao36 t489.length co36 : Value).ownBlock ∧ some k_ ≠ (.slice Ao39 t492.length co39 : Value).ownBlock ∧ some k_ ≠ (.slice Ao43 t496.length co43 : Value).ownBlock ∧ some k_ ≠ (.slice Ao48 t501.length co48 : Value).ownBlock ∧ some k_ ≠ (.slice Ao47 y504.length co47 : Value).ownBlock ∧ some k_ ≠ (.slice Ao58 t508.length co58 : Value).ownBlock ∧ some k_ ≠ (.slice Ao57 y511.length co57 : Value).ownBlock ∧ k_ ≠ gb479 ∧ k_ ≠ gb488 ∧ k_ ≠ gb500 ∧ k_ ≠ gb507 ∧ k_ ≠ gb514) ho0 (fun k_ hk_ => ⟨(Kd.fresh' (Kd.N_lt (hN_ HO470.out)) k_ hk_), (Kd.fresh' (Kd.N_lt (hN_ HO473.out)) k_ hk_), (Kd.fresh' (Kd.R_lt (hR_ HO477.out)) k_ hk_), (Kd.fresh' (Kd.N_lt (hN_ HO482.out)) k_ hk_), (Kd.fresh' (Kd.R_lt (hR_ HO486.out)) k_ hk_), (Kd.fresh' (Kd.N_lt (hN_ HO491.out)) k_ hk_), (Kd.fresh' (Kd.N_lt (hN_ HO494.out)) k_ hk_), (Kd.fresh' (Kd.R_lt (hR_ HO498.out)) k_ hk_), (Kd.fresh' (Kd.N_lt (hN_ HO503.out)) k_ hk_), (Kd.fresh' (Kd.R_lt (hR_ HO506.out)) k_ hk_), (Kd.fresh' (Kd.N_lt (hN_ HO510.out)) k_ hk_), (Kd.fresh' (Kd.R_lt (hR_ HO513.out)) k_ hk_), (Kd.freshB (g := gb479) (o := .cells #[.slice Ao26 t471.length co26, .int .i64 t474, .slice Ao28 t475.length co28] 29 (0, 0)) (hK_ BK479.out) k_ hk_), (Kd.freshB (g := gb488) (o := .cells #[.slice Ao31 t480.length co31, .int .i64 t483, .slice Ao34 t484.length co34] 29 (0, 0)) (hK_ BK488.out) k_ hk_), (Kd.freshB (g := gb500) (o := .cells #[.slice Ao39 t492.length co39, .int .i64 t495, .slice Ao43 t496.length co43] 29 (0, 0)) (hK_ BK500.out) k_ hk_), (Kd.freshB (g := gb507) (o := .cells #[.slice Ao48 t501.length co48, .int .i64 0, .slice Ao47 y504.length co47] 29 (0, 0)) (hK_ BK507.out) k_ hk_), (Kd.freshB (g := gb514) (o := .cells #[.slice Ao58 t508.length co58, .int .i64 0, .slice Ao57 y511.length co57] 29 (0, 0)) (hK_ BK514.out) k_ hk_)⟩)) (below_size hC_))
  have n13_ := Aside0.mk (bB_ BK479.out hb)
  have n14_ := Aside0.mk (bB_ BK488.out hb)
  have n15_ := Aside0.mk (bB_ BK500.out hb)
  have n16_ := Aside0.mk (bB_ BK507.out hb)
  have n17_ := Aside0.mk (bB_ BK514.out hb)
  have n18_ := Aside0.mk (below_step hC_ hb)
  clear HO470
  clear HO473
  clear HO477
  clear HO482
  clear HO486
  clear HO491
  clear HO494
  clear HO498
  clear HO503
  clear HO506
  clear HO510
  clear HO513
  clear BK479
  clear BK488
  clear BK500
  clear BK507
  clear BK514
  clear HB
  have HO470 := n0_
  have HO473 := n1_
  have HO477 := n2_
  have HO482 := n3_
  have HO486 := n4_
  have HO491 := n5_
  have HO494 := n6_
  have HO498 := n7_
  have HO503 := n8_
  have HO506 := n9_
  have HO510 := n10_
  have HO513 := n11_
  have HO517 := n12_
  have BK479 := n13_
  have BK488 := n14_
  have BK500 := n15_
  have BK507 := n16_
  have BK514 := n17_
  have HB := n18_
  clear n0_ n1_ n2_ n3_ n4_ n5_ n6_ n7_ n8_ n9_ n10_ n11_ n12_ n13_ n14_ n15_ n16_ n17_ n18_
  (try clear hb)
  (try clear hb2)
  (try clear hk)
  (try clear hi)
  (try clear ho0)
  obtain ⟨Ao68, co68, eo68⟩ := Kd.N_slice HO517.out
  (first | subst eo68 | (injection eo68 with f1_ f2_ f3_; have f4_ := f1_.symm; have f5_ := f3_.symm; clear f1_ f2_ f3_; subst f4_; subst f5_))
  refine hK.out _ _ ⟨(blk_cell BK479.out 0).trans rfl, (blk_cell BK479.out 1).trans rfl, (blk_cell BK479.out 2).trans rfl, (blk_cell BK507.out 0).trans rfl, (blk_cell BK507.out 1).trans rfl, (blk_cell BK507.out 2).trans rfl, (blk_cell BK514.out 0).trans rfl, (blk_cell BK514.out 1).trans rfl, (blk_cell BK514.out 2).trans rfl⟩ (fun hHeld => ?_)
  clear hK K
  refine norm_ (a' := ?_) ?_ ?_
  rotate_left
  · show Act.put _ (some 34) _ = _
    simp only [Act.put, List.setIfInBounds_toArray, List.set_cons_zero, List.set_cons_succ, i64_w, i32_w]
    rfl
  refine pA_ 2 35 #[true, true, true, false, false, false, false, false, false, false, false, false, false, false, false, false, false, false, false, false, false, false, false, false, false, false, false, false, false, false, false, false, false] HT_.out ?_
  refine one_ (i := 3) (N := some 36) #[true, true, true, true, false, false, false, false, false, false, false, false, false, false, false, false, false, false, false, false, false, false, false, false, false, false, false, false, false, false, false, false, false] rfl rfl (one_of HT_.out (by kernel_rfl)) (by decide) (fun K hK => ?_)
  refine goes_ Tryd.func24 (by kernel_rfl) rfl #[.agg #[.slice Ao26 t471.length co26, .int .i64 t474, .slice Ao28 t475.length co28], .agg #[.slice Ao68 t515.length co68, .int .i64 1, .slice none 0 0]] (by rfl) rfl rfl hL_ ?_
  refine (sleuthlaw0_SameSession.calls k _ _ t471 t474 _ _ t475 _ _ t515 1 _ _ ([] : List (S26)) true _ ?side1 ?side2 ?side3 ?side4 ?side5 ?side6 ?side7 ?side8 A9.out).mono ?_
  (case side1 => repeat (first | exact (Kd.N_reads' HO473.out).2.2 | (with_reducible refine Kd.C_alloc ?_ _) | (with_reducible refine Kd.C_drewN ?_ _) | (with_reducible refine Kd.C_drew ?_)))
  (case side2 => exact (Kd.N_reads' HO473.out).2.1)
  (case side3 => exact cC_ (Kd.R_reads' HO477.out).2.2)
  (case side4 => exact (Kd.R_reads' HO477.out).2.1)
  (case side5 => repeat (first | exact (Kd.N_reads' HO517.out).2.2 | (with_reducible refine Kd.C_alloc ?_ _) | (with_reducible refine Kd.C_drewN ?_ _) | (with_reducible refine Kd.C_drew ?_)))
  (case side6 => exact (Kd.N_reads' HO517.out).2.1)
  (case side7 => exact Kd.C_nil _ _)
  (case side8 => exact Nat.le_refl _)
  rintro e w69 ⟨rfl, hb⟩
  refine ⟨_, rfl, ?_⟩
  have n0_ := Aside0.mk (Kd.N_below (hN_ HO470.out) hb)
  have n1_ := Aside0.mk (Kd.N_below (hN_ HO473.out) hb)
  have n2_ := Aside0.mk (Kd.R_below (hR_ HO477.out) hb)
  have n3_ := Aside0.mk (Kd.N_below (hN_ HO482.out) hb)
  have n4_ := Aside0.mk (Kd.R_below (hR_ HO486.out) hb)
  have n5_ := Aside0.mk (Kd.N_below (hN_ HO491.out) hb)
  have n6_ := Aside0.mk (Kd.N_below (hN_ HO494.out) hb)
  have n7_ := Aside0.mk (Kd.R_below (hR_ HO498.out) hb)
  have n8_ := Aside0.mk (Kd.N_below (hN_ HO503.out) hb)
  have n9_ := Aside0.mk (Kd.R_below (hR_ HO506.out) hb)
  have n10_ := Aside0.mk (Kd.N_below (hN_ HO510.out) hb)
  have n11_ := Aside0.mk (Kd.R_below (hR_ HO513.out) hb)
  have n12_ := Aside0.mk (Kd.N_below (hN_ HO517.out) hb)
  have n13_ := Aside0.mk (bB_ BK479.out hb)
  have n14_ := Aside0.mk (bB_ BK488.out hb)
  have n15_ := Aside0.mk (bB_ BK500.out hb)
  have n16_ := Aside0.mk (bB_ BK507.out hb)
  have n17_ := Aside0.mk (bB_ BK514.out hb)
  have n18_ := Aside0.mk (below_step hC_ hb)
  clear HO470
  clear HO473
  clear HO477
  clear HO482
  clear HO486
  clear HO491
  clear HO494
  clear HO498
  clear HO503
  clear HO506
  clear HO510
  clear HO513
  clear HO517
  clear BK479
  clear BK488
  clear BK500
  clear BK507
  clear BK514
  clear HB
  have HO470 := n0_
  have HO473 := n1_
  have HO477 := n2_
  have HO482 := n3_
  have HO486 := n4_
  have HO491 := n5_
  have HO494 := n6_
  have HO498 := n7_
  have HO503 := n8_
  have HO506 := n9_
  have HO510 := n10_
  have HO513 := n11_
  have HO517 := n12_
  have BK479 := n13_
  have BK488 := n14_
  have BK500 := n15_
  have BK507 := n16_
  have BK514 := n17_
  have HB := n18_
  clear n0_ n1_ n2_ n3_ n4_ n5_ n6_ n7_ n8_ n9_ n10_ n11_ n12_ n13_ n14_ n15_ n16_ n17_ n18_
  (try clear hb)
  (try clear hb2)
  (try clear hk)
  (try clear hi)
  refine hK.out _ _ ⟨(blk_cell BK479.out 0).trans rfl, (blk_cell BK479.out 1).trans rfl, (blk_cell BK479.out 2).trans rfl, (blk_cell BK507.out 0).trans rfl, (blk_cell BK507.out 1).trans rfl, (blk_cell BK507.out 2).trans rfl, (blk_cell BK514.out 0).trans rfl, (blk_cell BK514.out 1).trans rfl, (blk_cell BK514.out 2).trans rfl⟩ (fun hHeld => ?_)
  clear hK K
  refine norm_ (a' := ?_) ?_ ?_
  rotate_left
  · show Act.put _ (some 36) _ = _
    simp only [Act.put, List.setIfInBounds_toArray, List.set_cons_zero, List.set_cons_succ, i64_w, i32_w]
    rfl
  refine pA_ 4 37 #[true, true, true, true, true, false, false, false, false, false, false, false, false, false, false, false, false, false, false, false, false, false, false, false, false, false, false, false, false, false, false, false, false] HT_.out ?_
  refine pA_ 5 38 #[true, true, true, true, true, true, false, false, false, false, false, false, false, false, false, false, false, false, false, false, false, false, false, false, false, false, false, false, false, false, false, false, false] HT_.out ?_
  refine one_ (i := 6) (N := some 39) #[true, true, true, true, true, true, true, false, false, false, false, false, false, false, false, false, false, false, false, false, false, false, false, false, false, false, false, false, false, false, false, false, false] rfl rfl (one_of HT_.out (by kernel_rfl)) (by decide) (fun K hK => ?_)
  refine goes_ Tryd.func11 (by kernel_rfl) rfl #[.int .i64 t478] (by rfl) rfl rfl hL_ ?_
  with_reducible refine (sleuthlaw0_Num.calls t478 t519 _ A11.out).mono ?_
  rintro e w' ⟨rfl, ⟨nd, rfl⟩⟩
  refine ⟨_, rfl, ?_⟩
  refine hK.out _ _ ⟨(blk_cell BK479.out 0).trans rfl, (blk_cell BK479.out 1).trans rfl, (blk_cell BK479.out 2).trans rfl, (blk_cell BK507.out 0).trans rfl, (blk_cell BK507.out 1).trans rfl, (blk_cell BK507.out 2).trans rfl, (blk_cell BK514.out 0).trans rfl, (blk_cell BK514.out 1).trans rfl, (blk_cell BK514.out 2).trans rfl⟩ (fun hHeld => ?_)
  clear hK K
  refine norm_ (a' := ?_) ?_ ?_
  rotate_left
  · show Act.put _ (some 39) _ = _
    simp only [Act.put, List.setIfInBounds_toArray, List.set_cons_zero, List.set_cons_succ, i64_w, i32_w]
    rfl
  refine pA_ 7 40 #[true, true, true, true, true, true, true, true, false, false, false, false, false, false, false, false, false, false, false, false, false, false, false, false, false, false, false, false, false, false, false, false, false] HT_.out ?_
  refine pA_ 8 41 #[true, true, true, true, true, true, true, true, true, false, false, false, false, false, false, false, false, false, false, false, false, false, false, false, false, false, false, false, false, false, false, false, false] HT_.out ?_
  refine pA_ 9 42 #[true, true, true, true, true, true, true, true, true, true, false, false, false, false, false, false, false, false, false, false, false, false, false, false, false, false, false, false, false, false, false, false, false] HT_.out ?_
  refine pA_ 10 43 #[true, true, true, true, true, true, true, true, true, true, true, false, false, false, false, false, false, false, false, false, false, false, false, false, false, false, false, false, false, false, false, false, false] HT_.out ?_
  refine one_ (i := 11) (N := some 44) #[true, true, true, true, true, true, true, true, true, true, true, true, false, false, false, false, false, false, false, false, false, false, false, false, false, false, false, false, false, false, false, false, false] rfl rfl (one_of HT_.out (by kernel_rfl)) (by decide) (fun K hK => ?_)
  refine goes_ Tryd.func11 (by kernel_rfl) rfl #[.int .i64 t487] (by rfl) rfl rfl hL_ ?_
  with_reducible refine (sleuthlaw0_Num.calls t487 t520 _ A13.out).mono ?_
  rintro e w' ⟨rfl, ⟨nd, rfl⟩⟩
  refine ⟨_, rfl, ?_⟩
  refine hK.out _ _ ⟨(blk_cell BK479.out 0).trans rfl, (blk_cell BK479.out 1).trans rfl, (blk_cell BK479.out 2).trans rfl, (blk_cell BK507.out 0).trans rfl, (blk_cell BK507.out 1).trans rfl, (blk_cell BK507.out 2).trans rfl, (blk_cell BK514.out 0).trans rfl, (blk_cell BK514.out 1).trans rfl, (blk_cell BK514.out 2).trans rfl⟩ (fun hHeld => ?_)
  clear hK K
  refine norm_ (a' := ?_) ?_ ?_
  rotate_left
  · show Act.put _ (some 44) _ = _
    simp only [Act.put, List.setIfInBounds_toArray, List.set_cons_zero, List.set_cons_succ, i64_w, i32_w]
    rfl
  refine pA_ 12 45 #[true, true, true, true, true, true, true, true, true, true, true, true, true, false, false, false, false, false, false, false, false, false, false, false, false, false, false, false, false, false, false, false, false] HT_.out ?_
  refine pA_ 13 46 #[true, true, true, true, true, true, true, true, true, true, true, true, true, true, false, false, false, false, false, false, false, false, false, false, false, false, false, false, false, false, false, false, false] HT_.out ?_
  refine pA_ 14 47 #[true, true, true, true, true, true, true, true, true, true, true, true, true, true, true, false, false, false, false, false, false, false, false, false, false, false, false, false, false, false, false, false, false] HT_.out ?_
  refine pA_ 15 48 #[true, true, true, true, true, true, true, true, true, true, true, true, true, true, true, true, false, false, false, false, false, false, false, false, false, false, false, false, false, false, false, false, false] HT_.out ?_
  refine one_ (i := 16) (N := some 49) #[true, true, true, true, true, true, true, true, true, true, true, true, true, true, true, true, true, false, false, false, false, false, false, false, false, false, false, false, false, false, false, false, false] rfl rfl (one_of HT_.out (by kernel_rfl)) (by decide) (fun K hK => ?_)
  refine goes_ Tryd.func11 (by kernel_rfl) rfl #[.int .i64 t499] (by rfl) rfl rfl hL_ ?_
  with_reducible refine (sleuthlaw0_Num.calls t499 t521 _ A15.out).mono ?_
  rintro e w' ⟨rfl, ⟨nd, rfl⟩⟩
  refine ⟨_, rfl, ?_⟩
  refine hK.out _ _ ⟨(blk_cell BK479.out 0).trans rfl, (blk_cell BK479.out 1).trans rfl, (blk_cell BK479.out 2).trans rfl, (blk_cell BK507.out 0).trans rfl, (blk_cell BK507.out 1).trans rfl, (blk_cell BK507.out 2).trans rfl, (blk_cell BK514.out 0).trans rfl, (blk_cell BK514.out 1).trans rfl, (blk_cell BK514.out 2).trans rfl⟩ (fun hHeld => ?_)
  clear hK K
  refine norm_ (a' := ?_) ?_ ?_
  rotate_left
  · show Act.put _ (some 49) _ = _
    simp only [Act.put, List.setIfInBounds_toArray, List.set_cons_zero, List.set_cons_succ, i64_w, i32_w]
    rfl
  refine pA_ 17 50 #[true, true, true, true, true, true, true, true, true, true, true, true, true, true, true, true, true, true, false, false, false, false, false, false, false, false, false, false, false, false, false, false, false] HT_.out ?_
  refine pA_ 18 51 #[true, true, true, true, true, true, true, true, true, true, true, true, true, true, true, true, true, true, true, false, false, false, false, false, false, false, false, false, false, false, false, false, false] HT_.out ?_
  refine pA_ 19 52 #[true, true, true, true, true, true, true, true, true, true, true, true, true, true, true, true, true, true, true, true, false, false, false, false, false, false, false, false, false, false, false, false, false] HT_.out ?_
  refine tA_ 20 53 #[true, true, true, true, true, true, true, true, true, true, true, true, true, true, true, true, true, true, true, true, true, false, false, false, false, false, false, false, false, false, false, false, false] HT_.out HW_.out hHeld ?_
  refine one_ (i := 21) (N := some 54) #[true, true, true, true, true, true, true, true, true, true, true, true, true, true, true, true, true, true, true, true, true, true, false, false, false, false, false, false, false, false, false, false, false] rfl rfl (one_of HT_.out (by kernel_rfl)) (by decide) (fun K hK => ?_)
  refine goes_ Tryd.func16 (by kernel_rfl) rfl #[.agg #[.slice Ao26 t471.length co26, .int .i64 t474, .slice Ao28 t475.length co28]] (by rfl) rfl rfl hL_ ?_
  with_reducible refine (session_May.calls k _ _ t471 t474 _ _ t475 true _ ?side1 ?side2 ?side3 ?side4 A17.out (by first | exact hG | exact GOK.below hG hC_)).mono ?_
  (case side1 => repeat (first | exact (Kd.N_reads' HO473.out).2.2 | (with_reducible refine Kd.C_alloc ?_ _) | (with_reducible refine Kd.C_drewN ?_ _) | (with_reducible refine Kd.C_drew ?_)))
  (case side2 => exact (Kd.N_reads' HO473.out).2.1)
  (case side3 => exact cC_ (Kd.R_reads' HO477.out).2.2)
  (case side4 => exact (Kd.R_reads' HO477.out).2.1)
  rintro e w70 ⟨rfl, hb⟩
  refine ⟨_, rfl, ?_⟩
  have n0_ := Aside0.mk (Kd.N_below (hN_ HO470.out) hb)
  have n1_ := Aside0.mk (Kd.N_below (hN_ HO473.out) hb)
  have n2_ := Aside0.mk (Kd.R_below (hR_ HO477.out) hb)
  have n3_ := Aside0.mk (Kd.N_below (hN_ HO482.out) hb)
  have n4_ := Aside0.mk (Kd.R_below (hR_ HO486.out) hb)
  have n5_ := Aside0.mk (Kd.N_below (hN_ HO491.out) hb)
  have n6_ := Aside0.mk (Kd.N_below (hN_ HO494.out) hb)
  have n7_ := Aside0.mk (Kd.R_below (hR_ HO498.out) hb)
  have n8_ := Aside0.mk (Kd.N_below (hN_ HO503.out) hb)
  have n9_ := Aside0.mk (Kd.R_below (hR_ HO506.out) hb)
  have n10_ := Aside0.mk (Kd.N_below (hN_ HO510.out) hb)
  have n11_ := Aside0.mk (Kd.R_below (hR_ HO513.out) hb)
  have n12_ := Aside0.mk (Kd.N_below (hN_ HO517.out) hb)
  have n13_ := Aside0.mk (bB_ BK479.out hb)
  have n14_ := Aside0.mk (bB_ BK488.out hb)
  have n15_ := Aside0.mk (bB_ BK500.out hb)
  have n16_ := Aside0.mk (bB_ BK507.out hb)
  have n17_ := Aside0.mk (bB_ BK514.out hb)
  have n18_ := Aside0.mk (below_step hC_ hb)
  clear HO470
  clear HO473
  clear HO477
  clear HO482
  clear HO486
  clear HO491
  clear HO494
  clear HO498
  clear HO503
  clear HO506
  clear HO510
  clear HO513
  clear HO517
  clear BK479
  clear BK488
  clear BK500
  clear BK507
  clear BK514
  clear HB
  have HO470 := n0_
  have HO473 := n1_
  have HO477 := n2_
  have HO482 := n3_
  have HO486 := n4_
  have HO491 := n5_
  have HO494 := n6_
  have HO498 := n7_
  have HO503 := n8_
  have HO506 := n9_
  have HO510 := n10_
  have HO513 := n11_
  have HO517 := n12_
  have BK479 := n13_
  have BK488 := n14_
  have BK500 := n15_
  have BK507 := n16_
  have BK514 := n17_
  have HB := n18_
  clear n0_ n1_ n2_ n3_ n4_ n5_ n6_ n7_ n8_ n9_ n10_ n11_ n12_ n13_ n14_ n15_ n16_ n17_ n18_
  (try clear hb)
  (try clear hb2)
  (try clear hk)
  (try clear hi)
  refine hK.out _ _ ⟨(blk_cell BK479.out 0).trans rfl, (blk_cell BK479.out 1).trans rfl, (blk_cell BK479.out 2).trans rfl, (blk_cell BK507.out 0).trans rfl, (blk_cell BK507.out 1).trans rfl, (blk_cell BK507.out 2).trans rfl, (blk_cell BK514.out 0).trans rfl, (blk_cell BK514.out 1).trans rfl, (blk_cell BK514.out 2).trans rfl⟩ (fun hHeld => ?_)
  clear hK K
  refine norm_ (a' := ?_) ?_ ?_
  rotate_left
  · show Act.put _ (some 54) _ = _
    simp only [Act.put, List.setIfInBounds_toArray, List.set_cons_zero, List.set_cons_succ, i64_w, i32_w]
    rfl
  refine pA_ 22 55 #[true, true, true, true, true, true, true, true, true, true, true, true, true, true, true, true, true, true, true, true, true, true, true, false, false, false, false, false, false, false, false, false, false] HT_.out ?_
  refine pA_ 23 56 #[true, true, true, true, true, true, true, true, true, true, true, true, true, true, true, true, true, true, true, true, true, true, true, true, false, false, false, false, false, false, false, false, false] HT_.out ?_
  refine tA_ 24 57 #[true, true, true, true, true, true, true, true, true, true, true, true, true, true, true, true, true, true, true, true, true, true, true, true, true, false, false, false, false, false, false, false, false] HT_.out HW_.out hHeld ?_
  refine one_ (i := 25) (N := some 58) #[true, true, true, true, true, true, true, true, true, true, true, true, true, true, true, true, true, true, true, true, true, true, true, true, true, true, false, false, false, false, false, false, false] rfl rfl (one_of HT_.out (by kernel_rfl)) (by decide) (fun K hK => ?_)
  refine goes_ Tryd.func16 (by kernel_rfl) rfl #[.agg #[.slice Ao48 t501.length co48, .int .i64 0, .slice Ao47 y504.length co47]] (by rfl) rfl rfl hL_ ?_
  with_reducible refine (session_May.calls k _ _ t501 0 _ _ y504 true _ ?side1 ?side2 ?side3 ?side4 A19.out (by first | exact hG | exact GOK.below hG hC_)).mono ?_
  (case side1 => repeat (first | exact (Kd.N_reads' HO503.out).2.2 | (with_reducible refine Kd.C_alloc ?_ _) | (with_reducible refine Kd.C_drewN ?_ _) | (with_reducible refine Kd.C_drew ?_)))
  (case side2 => exact (Kd.N_reads' HO503.out).2.1)
  (case side3 => exact cC_ (Kd.R_reads' HO506.out).2.2)
  (case side4 => exact (Kd.R_reads' HO506.out).2.1)
  rintro e w71 ⟨rfl, hb⟩
  refine ⟨_, rfl, ?_⟩
  have n0_ := Aside0.mk (Kd.N_below (hN_ HO470.out) hb)
  have n1_ := Aside0.mk (Kd.N_below (hN_ HO473.out) hb)
  have n2_ := Aside0.mk (Kd.R_below (hR_ HO477.out) hb)
  have n3_ := Aside0.mk (Kd.N_below (hN_ HO482.out) hb)
  have n4_ := Aside0.mk (Kd.R_below (hR_ HO486.out) hb)
  have n5_ := Aside0.mk (Kd.N_below (hN_ HO491.out) hb)
  have n6_ := Aside0.mk (Kd.N_below (hN_ HO494.out) hb)
  have n7_ := Aside0.mk (Kd.R_below (hR_ HO498.out) hb)
  have n8_ := Aside0.mk (Kd.N_below (hN_ HO503.out) hb)
  have n9_ := Aside0.mk (Kd.R_below (hR_ HO506.out) hb)
  have n10_ := Aside0.mk (Kd.N_below (hN_ HO510.out) hb)
  have n11_ := Aside0.mk (Kd.R_below (hR_ HO513.out) hb)
  have n12_ := Aside0.mk (Kd.N_below (hN_ HO517.out) hb)
  have n13_ := Aside0.mk (bB_ BK479.out hb)
  have n14_ := Aside0.mk (bB_ BK488.out hb)
  have n15_ := Aside0.mk (bB_ BK500.out hb)
  have n16_ := Aside0.mk (bB_ BK507.out hb)
  have n17_ := Aside0.mk (bB_ BK514.out hb)
  have n18_ := Aside0.mk (below_step hC_ hb)
  clear HO470
  clear HO473
  clear HO477
  clear HO482
  clear HO486
  clear HO491
  clear HO494
  clear HO498
  clear HO503
  clear HO506
  clear HO510
  clear HO513
  clear HO517
  clear BK479
  clear BK488
  clear BK500
  clear BK507
  clear BK514
  clear HB
  have HO470 := n0_
  have HO473 := n1_
  have HO477 := n2_
  have HO482 := n3_
  have HO486 := n4_
  have HO491 := n5_
  have HO494 := n6_
  have HO498 := n7_
  have HO503 := n8_
  have HO506 := n9_
  have HO510 := n10_
  have HO513 := n11_
  have HO517 := n12_
  have BK479 := n13_
  have BK488 := n14_
  have BK500 := n15_
  have BK507 := n16_
  have BK514 := n17_
  have HB := n18_
  clear n0_ n1_ n2_ n3_ n4_ n5_ n6_ n7_ n8_ n9_ n10_ n11_ n12_ n13_ n14_ n15_ n16_ n17_ n18_
  (try clear hb)
  (try clear hb2)
  (try clear hk)
  (try clear hi)
  refine hK.out _ _ ⟨(blk_cell BK479.out 0).trans rfl, (blk_cell BK479.out 1).trans rfl, (blk_cell BK479.out 2).trans rfl, (blk_cell BK507.out 0).trans rfl, (blk_cell BK507.out 1).trans rfl, (blk_cell BK507.out 2).trans rfl, (blk_cell BK514.out 0).trans rfl, (blk_cell BK514.out 1).trans rfl, (blk_cell BK514.out 2).trans rfl⟩ (fun hHeld => ?_)
  clear hK K
  refine norm_ (a' := ?_) ?_ ?_
  rotate_left
  · show Act.put _ (some 58) _ = _
    simp only [Act.put, List.setIfInBounds_toArray, List.set_cons_zero, List.set_cons_succ, i64_w, i32_w]
    rfl
  refine pA_ 26 59 #[true, true, true, true, true, true, true, true, true, true, true, true, true, true, true, true, true, true, true, true, true, true, true, true, true, true, true, false, false, false, false, false, false] HT_.out ?_
  refine pA_ 27 60 #[true, true, true, true, true, true, true, true, true, true, true, true, true, true, true, true, true, true, true, true, true, true, true, true, true, true, true, true, false, false, false, false, false] HT_.out ?_
  refine tA_ 28 61 #[true, true, true, true, true, true, true, true, true, true, true, true, true, true, true, true, true, true, true, true, true, true, true, true, true, true, true, true, true, false, false, false, false] HT_.out HW_.out hHeld ?_
  refine one_ (i := 29) (N := some 62) #[true, true, true, true, true, true, true, true, true, true, true, true, true, true, true, true, true, true, true, true, true, true, true, true, true, true, true, true, true, true, false, false, false] rfl rfl (one_of HT_.out (by kernel_rfl)) (by decide) (fun K hK => ?_)
  refine goes_ Tryd.func16 (by kernel_rfl) rfl #[.agg #[.slice Ao58 t508.length co58, .int .i64 0, .slice Ao57 y511.length co57]] (by rfl) rfl rfl hL_ ?_
  with_reducible refine (session_May.calls k _ _ t508 0 _ _ y511 t524 _ ?side1 ?side2 ?side3 ?side4 A21.out (by first | exact hG | exact GOK.below hG hC_)).mono ?_
  (case side1 => repeat (first | exact (Kd.N_reads' HO510.out).2.2 | (with_reducible refine Kd.C_alloc ?_ _) | (with_reducible refine Kd.C_drewN ?_ _) | (with_reducible refine Kd.C_drew ?_)))
  (case side2 => exact (Kd.N_reads' HO510.out).2.1)
  (case side3 => exact cC_ (Kd.R_reads' HO513.out).2.2)
  (case side4 => exact (Kd.R_reads' HO513.out).2.1)
  rintro e w72 ⟨rfl, hb⟩
  refine ⟨_, rfl, ?_⟩
  have n0_ := Aside0.mk (Kd.N_below (hN_ HO470.out) hb)
  have n1_ := Aside0.mk (Kd.N_below (hN_ HO473.out) hb)
  have n2_ := Aside0.mk (Kd.R_below (hR_ HO477.out) hb)
  have n3_ := Aside0.mk (Kd.N_below (hN_ HO482.out) hb)
  have n4_ := Aside0.mk (Kd.R_below (hR_ HO486.out) hb)
  have n5_ := Aside0.mk (Kd.N_below (hN_ HO491.out) hb)
  have n6_ := Aside0.mk (Kd.N_below (hN_ HO494.out) hb)
  have n7_ := Aside0.mk (Kd.R_below (hR_ HO498.out) hb)
  have n8_ := Aside0.mk (Kd.N_below (hN_ HO503.out) hb)
  have n9_ := Aside0.mk (Kd.R_below (hR_ HO506.out) hb)
  have n10_ := Aside0.mk (Kd.N_below (hN_ HO510.out) hb)
  have n11_ := Aside0.mk (Kd.R_below (hR_ HO513.out) hb)
  have n12_ := Aside0.mk (Kd.N_below (hN_ HO517.out) hb)
  have n13_ := Aside0.mk (bB_ BK479.out hb)
  have n14_ := Aside0.mk (bB_ BK488.out hb)
  have n15_ := Aside0.mk (bB_ BK500.out hb)
  have n16_ := Aside0.mk (bB_ BK507.out hb)
  have n17_ := Aside0.mk (bB_ BK514.out hb)
  have n18_ := Aside0.mk (below_step hC_ hb)
  clear HO470
  clear HO473
  clear HO477
  clear HO482
  clear HO486
  clear HO491
  clear HO494
  clear HO498
  clear HO503
  clear HO506
  clear HO510
  clear HO513
  clear HO517
  clear BK479
  clear BK488
  clear BK500
  clear BK507
  clear BK514
  clear HB
  have HO470 := n0_
  have HO473 := n1_
  have HO477 := n2_
  have HO482 := n3_
  have HO486 := n4_
  have HO491 := n5_
  have HO494 := n6_
  have HO498 := n7_
  have HO503 := n8_
  have HO506 := n9_
  have HO510 := n10_
  have HO513 := n11_
  have HO517 := n12_
  have BK479 := n13_
  have BK488 := n14_
  have BK500 := n15_
  have BK507 := n16_
  have BK514 := n17_
  have HB := n18_
  clear n0_ n1_ n2_ n3_ n4_ n5_ n6_ n7_ n8_ n9_ n10_ n11_ n12_ n13_ n14_ n15_ n16_ n17_ n18_
  (try clear hb)
  (try clear hb2)
  (try clear hk)
  (try clear hi)
  refine hK.out _ _ ⟨(blk_cell BK479.out 0).trans rfl, (blk_cell BK479.out 1).trans rfl, (blk_cell BK479.out 2).trans rfl, (blk_cell BK507.out 0).trans rfl, (blk_cell BK507.out 1).trans rfl, (blk_cell BK507.out 2).trans rfl, (blk_cell BK514.out 0).trans rfl, (blk_cell BK514.out 1).trans rfl, (blk_cell BK514.out 2).trans rfl⟩ (fun hHeld => ?_)
  clear hK K
  refine norm_ (a' := ?_) ?_ ?_
  rotate_left
  · show Act.put _ (some 62) _ = _
    simp only [Act.put, List.setIfInBounds_toArray, List.set_cons_zero, List.set_cons_succ, i64_w, i32_w]
    rfl
  refine pA_ 30 63 #[true, true, true, true, true, true, true, true, true, true, true, true, true, true, true, true, true, true, true, true, true, true, true, true, true, true, true, true, true, true, true, false, false] HT_.out ?_
  refine pA_ 31 64 #[true, true, true, true, true, true, true, true, true, true, true, true, true, true, true, true, true, true, true, true, true, true, true, true, true, true, true, true, true, true, true, true, false] HT_.out ?_
  refine pA_ 32 0 #[true, true, true, true, true, true, true, true, true, true, true, true, true, true, true, true, true, true, true, true, true, true, true, true, true, true, true, true, true, true, true, true, true] HT_.out ?_
  refine done_ (done_of HT_.out (by kernel_rfl)) ?_
  try go_wp2
  go_ret
  exact ⟨hV_, hC_⟩
end Go.Proofs.YtgokcaccamfgfaaDoor.G
end
section
/- What the laws of package session share. -/
namespace Go.Proofs.YtgokcaccamfgfaaDoor.G
open Go.RowKit Go.Proofs.YtgokcaccamfgfaaDoorW.PrintWords Go.Proofs.YtgokcaccamfgfaaDoorW.PrintLast Go.Proofs.YtgokcaccamfgfaaDoorW.PrintMore
set_option linter.unusedVariables false
set_option linter.unusedSimpArgs false
def sessSome : List Nd := [(⟨0, (-1), ([] : List ByteArray), (⟨#[57]⟩ : ByteArray)⟩ : Nd), (⟨1, 0, (([(⟨#[64, 55, 40, 95, 32, 52, 41]⟩ : ByteArray), (⟨#[53]⟩ : ByteArray)] : List ByteArray)), (⟨#[57]⟩ : ByteArray)⟩ : Nd), (⟨2, 0, ([] : List ByteArray), (⟨#[33]⟩ : ByteArray)⟩ : Nd), (⟨1, 1, (([(⟨#[49]⟩ : ByteArray), (⟨#[95]⟩ : ByteArray)] : List ByteArray)), (⟨#[95]⟩ : ByteArray)⟩ : Nd), (⟨1, 2, (([(⟨#[49]⟩ : ByteArray), (⟨#[95]⟩ : ByteArray)] : List ByteArray)), (⟨#[95]⟩ : ByteArray)⟩ : Nd)]
theorem sessSome_eq : sleuthlaw21_some.f = some sessSome := rfl
theorem sessSome_may : mayT sessSome = true := by kernel_rfl
theorem sessSome_ok : okN sessSome := ⟨by decide, by
  intro x hx
  have h : (sessSome.all fun x => decide (x.f2.length ≤ 8796093021952)) = true := by kernel_rfl
  exact of_decide_eq_true (List.all_eq_true.1 h x hx)⟩
theorem sessNil_ok : okN [] := ⟨by decide, fun x hx => by cases hx⟩
theorem sessAwake_ev : Ev (fun k => sleuthlaw21_awake.f k) true := by
  unfold sleuthlaw21_awake.f
  simp only [sessSome_eq, Option.bind_some]
  refine Ev.bind (new_ev sessSome sessSome_ok 1) (Ev.bind (new_ev [] sessNil_ok 0) (Ev.bind (new_ev sessSome sessSome_ok 2) ?_))
  have e1 : newF sessSome 1 = (sessSome, 1, [], 0) := by kernel_rfl
  have e2 : newF [] 0 = ([], 0, [], 2100) := by kernel_rfl
  have e3 : newF sessSome 2 = ([], 0, [], 2100) := by kernel_rfl
  rw [e1, e2, e3]
  refine Ev.bind (sameSession_ev sessSome sessSome_ok 1 [] (Nat.zero_le _)) ?_
  simp only [if_pos, sleuthlaw0_Num.f, Option.bind_some]
  refine Ev.bind (sessMay_ev sessSome 1 [] (Nat.zero_le _)) ?_
  have e4 : sessS sessSome 1 [] = true := by kernel_rfl
  have e5 : sessS sessSome 0 [⟨0, 2⟩, ⟨1, 1⟩] = true := by kernel_rfl
  have e6 : sessS sessSome 0 [⟨0, 2⟩, ⟨2, 1⟩] = false := by kernel_rfl
  rw [e4]
  simp only [if_pos]
  refine Ev.bind (sessMay_ev sessSome 0 [⟨0, 2⟩, ⟨1, 1⟩] (by decide)) ?_
  rw [e5]
  simp only [if_pos]
  refine Ev.bind (sessMay_ev sessSome 0 [⟨0, 2⟩, ⟨2, 1⟩] (by decide)) ?_
  rw [e6]
  exact Ev.now _
end Go.Proofs.YtgokcaccamfgfaaDoor.G
end
