/- Parts of this proof, one behind the other: G54, SessWake. -/
import Derived.Test.YtgokcaccamfgfaaGreatDoorU2
import Derived.Test.YtgokcaccamfgfaaGreatDoorG0
import Derived.Test.YtgokcaccamfgfaaGreatDoorU11
import Derived.Test.YtgokcaccamfgfaaGreatDoorU12
section
-- Laid by the session's own driver gp.py over the kit's printer. Not trusted: Lean checks it.
namespace Go.Proofs.YtgokcaccamfgfaaGreatDoor.G
open Go.RowKit Go.Proofs.YtgokcaccamfgfaaGreatDoorW.PrintWords Go.Proofs.YtgokcaccamfgfaaGreatDoorW.PrintLast Go.Proofs.YtgokcaccamfgfaaGreatDoorW.PrintMore
set_option maxHeartbeats 8000000
set_option maxRecDepth 100000
attribute [local go_sem] max2_int min2_int max_two min_two max_three min_three max_four min_four   -- for this text's walks alone
set_option linter.unusedVariables false
set_option linter.unusedSimpArgs false

def sleuthlaw21_awake.f (k : Nat)  : Option (Bool) := (sleuthlaw21_some.f).bind fun t568 => ((session_New.f k t568 1).bind fun bt571 => ((session_New.f k ([] : List (S64)) 0).bind fun bt580 => ((sleuthlaw21_some.f).bind fun t589 => ((session_New.f k t589 2).bind fun bt592 => ((sleuthlaw21_some.f).bind fun t601 => ((sleuthlaw21_some.f).bind fun t608 => ((sleuthlaw21_some.f).bind fun t615 => ((sleuthlaw0_SameSession.f k bt571.1 bt571.2.1 bt571.2.2.1 t615 1 ([] : List (S46))).bind fun t618 => (if t618 = true then ((sleuthlaw0_Num.f bt571.2.2.2).bind fun t619 => (if t619 = 0 then ((sleuthlaw0_Num.f bt580.2.2.2).bind fun t620 => (if t620 = 2100 then ((sleuthlaw0_Num.f bt592.2.2.2).bind fun t621 => (if t621 = 2100 then ((session_May.f k bt571.1 bt571.2.1 bt571.2.2.1).bind fun t622 => (if t622 = true then ((session_May.f k t601 0 (([(⟨0, 2⟩ : S46), (⟨1, 1⟩ : S46)] : List (S46)))).bind fun t623 => (if t623 = true then ((session_May.f k t608 0 (([(⟨0, 2⟩ : S46), (⟨2, 1⟩ : S46)] : List (S46)))).bind fun t624 => (some (!t624))) else (none))) else (none))) else (none))) else (none))) else (none))) else (none))))))))))
theorem sleuthlaw21_awake.mono : ∀ k, LeO (sleuthlaw21_awake.f k ) (sleuthlaw21_awake.f (k + 1) ) := by
 intro  k
 unfold sleuthlaw21_awake.f
 repeat' first
  | (with_reducible exact session_May.mono _ _ _ _)
  | (with_reducible exact session_New.mono _ _ _)
  | (with_reducible exact sleuthlaw0_SameSession.mono _ _ _ _ _ _ _)
  | (with_reducible exact LeO.refl _)
  | (with_reducible exact LeO.none _)
  | (with_reducible refine LeO.ite ?_ ?_)
  | (with_reducible refine LeO.bind ?_ (fun _ => ?_))
  | exact session_May.mono _ _ _ _
  | exact session_New.mono _ _ _
  | exact sleuthlaw0_SameSession.mono _ _ _ _ _ _ _
  | exact LeO.none _
  | refine LeO.ite ?_ ?_
  | refine LeO.bind ?_ (fun _ => ?_)
def sleuthlaw21_awake.T6 : Bool × List (List Nat × List Nat) := (true, [([], []), ([], []), ([1], [1]), ([0, 2, 1], [0, 2]), ([3, 3], [3]), ([4], [4]), ([5, 4, 4], [4, 5]), ([6, 4], [4, 6]), ([4, 7], [4, 7]), ([8, 6], [8]), ([9], [9]), ([10, 9, 9], [9, 10]), ([11, 9], [9, 11]), ([9, 12], [9, 12]), ([13, 11], [13]), ([14], [14]), ([15, 14, 14], [14, 15]), ([16, 14], [14, 16]), ([14, 17], [14, 17]), ([18, 16], [18]), ([19], [19]), ([20, 19, 19], [19, 20]), ([19, 21], [19, 21]), ([22, 21], [22]), ([23], [23]), ([24, 23, 23], [23, 24]), ([23, 25], [23, 25]), ([26, 25], [26]), ([27], [27]), ([28, 27, 27], [27, 28]), ([29, 27], [27, 29]), ([27, 30], [27, 30]), ([31, 29, 0, 1, 2, 3, 4, 5, 6, 7, 8, 9, 10, 11, 12, 13, 14, 15, 16, 17, 18, 19, 20, 21, 22, 23, 24, 25, 26, 27, 28, 29, 30, 31], [31])])
def sleuthlaw21_awake.B6 : List Nat := [0, 0, 2, 7, 15, 31, 63, 127, 255, 511, 1023, 2047, 4095, 8191, 16383, 32767, 65535, 131071, 262143, 524287, 1048575, 2097151, 4194303, 8388607, 16777215, 33554431, 67108863, 134217727, 268435455, 536870911, 1073741823, 2147483647, 4294967295]
theorem sleuthlaw21_awake.tab6 : rtab .any (opsOf Tryz.f23 6) = sleuthlaw21_awake.T6 := by kernel_rfl
theorem sleuthlaw21_awake.bits6 : waitsOk sleuthlaw21_awake.T6.2 sleuthlaw21_awake.B6 = true := by kernel_rfl
theorem sleuthlaw21_awake.calls (k : Nat)  (r : Bool) (w : World) (h : sleuthlaw21_awake.f k  = some r) (hG : GOK w) :
 Calls Tryz.prog 23 #[] w fun e w' => e = .returned (.bool r) ∧ Below w.heap.size w w' := by
 have hu25 := Tryz.underlying25
 have hu46 := Tryz.underlying46
 have HB := a_ (Below.refl w.heap.size w)
 have H : ((sleuthlaw21_some.f).bind fun t568 => ((session_New.f k t568 1).bind fun bt571 => ((session_New.f k ([] : List (S64)) 0).bind fun bt580 => ((sleuthlaw21_some.f).bind fun t589 => ((session_New.f k t589 2).bind fun bt592 => ((sleuthlaw21_some.f).bind fun t601 => ((sleuthlaw21_some.f).bind fun t608 => ((sleuthlaw21_some.f).bind fun t615 => ((sleuthlaw0_SameSession.f k bt571.1 bt571.2.1 bt571.2.2.1 t615 1 ([] : List (S46))).bind fun t618 => (if t618 = true then ((sleuthlaw0_Num.f bt571.2.2.2).bind fun t619 => (if t619 = 0 then ((sleuthlaw0_Num.f bt580.2.2.2).bind fun t620 => (if t620 = 2100 then ((sleuthlaw0_Num.f bt592.2.2.2).bind fun t621 => (if t621 = 2100 then ((session_May.f k bt571.1 bt571.2.1 bt571.2.2.1).bind fun t622 => (if t622 = true then ((session_May.f k t601 0 (([(⟨0, 2⟩ : S46), (⟨1, 1⟩ : S46)] : List (S46)))).bind fun t623 => (if t623 = true then ((session_May.f k t608 0 (([(⟨0, 2⟩ : S46), (⟨2, 1⟩ : S46)] : List (S46)))).bind fun t624 => (some (!t624))) else (none))) else (none))) else (none))) else (none))) else (none))) else (none))))))))))) = some r := h
 clear h
 replace H := Option.bind_eq_some_iff.mp H
 obtain ⟨t568, A10, H⟩ := H
 replace H : ((session_New.f k t568 1).bind fun bt571 => ((session_New.f k ([] : List (S64)) 0).bind fun bt580 => ((sleuthlaw21_some.f).bind fun t589 => ((session_New.f k t589 2).bind fun bt592 => ((sleuthlaw21_some.f).bind fun t601 => ((sleuthlaw21_some.f).bind fun t608 => ((sleuthlaw21_some.f).bind fun t615 => ((sleuthlaw0_SameSession.f k bt571.1 bt571.2.1 bt571.2.2.1 t615 1 ([] : List (S46))).bind fun t618 => (if t618 = true then ((sleuthlaw0_Num.f bt571.2.2.2).bind fun t619 => (if t619 = 0 then ((sleuthlaw0_Num.f bt580.2.2.2).bind fun t620 => (if t620 = 2100 then ((sleuthlaw0_Num.f bt592.2.2.2).bind fun t621 => (if t621 = 2100 then ((session_May.f k bt571.1 bt571.2.1 bt571.2.2.1).bind fun t622 => (if t622 = true then ((session_May.f k t601 0 (([(⟨0, 2⟩ : S46), (⟨1, 1⟩ : S46)] : List (S46)))).bind fun t623 => (if t623 = true then ((session_May.f k t608 0 (([(⟨0, 2⟩ : S46), (⟨2, 1⟩ : S46)] : List (S46)))).bind fun t624 => (some (!t624))) else (none))) else (none))) else (none))) else (none))) else (none))) else (none)))))))))) = some r := H
 have A1 := a_ A10
 clear A10
 replace H := Option.bind_eq_some_iff.mp H
 obtain ⟨⟨t571, t574, t575, t578⟩, A20, H⟩ := H
 replace H : ((session_New.f k ([] : List (S64)) 0).bind fun bt580 => ((sleuthlaw21_some.f).bind fun t589 => ((session_New.f k t589 2).bind fun bt592 => ((sleuthlaw21_some.f).bind fun t601 => ((sleuthlaw21_some.f).bind fun t608 => ((sleuthlaw21_some.f).bind fun t615 => ((sleuthlaw0_SameSession.f k t571 t574 t575 t615 1 ([] : List (S46))).bind fun t618 => (if t618 = true then ((sleuthlaw0_Num.f t578).bind fun t619 => (if t619 = 0 then ((sleuthlaw0_Num.f bt580.2.2.2).bind fun t620 => (if t620 = 2100 then ((sleuthlaw0_Num.f bt592.2.2.2).bind fun t621 => (if t621 = 2100 then ((session_May.f k t571 t574 t575).bind fun t622 => (if t622 = true then ((session_May.f k t601 0 (([(⟨0, 2⟩ : S46), (⟨1, 1⟩ : S46)] : List (S46)))).bind fun t623 => (if t623 = true then ((session_May.f k t608 0 (([(⟨0, 2⟩ : S46), (⟨2, 1⟩ : S46)] : List (S46)))).bind fun t624 => (some (!t624))) else (none))) else (none))) else (none))) else (none))) else (none))) else (none))))))))) = some r := H
 have A2 := a_ A20
 clear A20
 replace H := Option.bind_eq_some_iff.mp H
 obtain ⟨⟨t580, t583, t584, t587⟩, A30, H⟩ := H
 replace H : ((sleuthlaw21_some.f).bind fun t589 => ((session_New.f k t589 2).bind fun bt592 => ((sleuthlaw21_some.f).bind fun t601 => ((sleuthlaw21_some.f).bind fun t608 => ((sleuthlaw21_some.f).bind fun t615 => ((sleuthlaw0_SameSession.f k t571 t574 t575 t615 1 ([] : List (S46))).bind fun t618 => (if t618 = true then ((sleuthlaw0_Num.f t578).bind fun t619 => (if t619 = 0 then ((sleuthlaw0_Num.f t587).bind fun t620 => (if t620 = 2100 then ((sleuthlaw0_Num.f bt592.2.2.2).bind fun t621 => (if t621 = 2100 then ((session_May.f k t571 t574 t575).bind fun t622 => (if t622 = true then ((session_May.f k t601 0 (([(⟨0, 2⟩ : S46), (⟨1, 1⟩ : S46)] : List (S46)))).bind fun t623 => (if t623 = true then ((session_May.f k t608 0 (([(⟨0, 2⟩ : S46), (⟨2, 1⟩ : S46)] : List (S46)))).bind fun t624 => (some (!t624))) else (none))) else (none))) else (none))) else (none))) else (none))) else (none)))))))) = some r := H
 have A3 := a_ A30
 clear A30
 replace H := Option.bind_eq_some_iff.mp H
 obtain ⟨t589, A40, H⟩ := H
 replace H : ((session_New.f k t589 2).bind fun bt592 => ((sleuthlaw21_some.f).bind fun t601 => ((sleuthlaw21_some.f).bind fun t608 => ((sleuthlaw21_some.f).bind fun t615 => ((sleuthlaw0_SameSession.f k t571 t574 t575 t615 1 ([] : List (S46))).bind fun t618 => (if t618 = true then ((sleuthlaw0_Num.f t578).bind fun t619 => (if t619 = 0 then ((sleuthlaw0_Num.f t587).bind fun t620 => (if t620 = 2100 then ((sleuthlaw0_Num.f bt592.2.2.2).bind fun t621 => (if t621 = 2100 then ((session_May.f k t571 t574 t575).bind fun t622 => (if t622 = true then ((session_May.f k t601 0 (([(⟨0, 2⟩ : S46), (⟨1, 1⟩ : S46)] : List (S46)))).bind fun t623 => (if t623 = true then ((session_May.f k t608 0 (([(⟨0, 2⟩ : S46), (⟨2, 1⟩ : S46)] : List (S46)))).bind fun t624 => (some (!t624))) else (none))) else (none))) else (none))) else (none))) else (none))) else (none))))))) = some r := H
 have A4 := a_ A40
 clear A40
 replace H := Option.bind_eq_some_iff.mp H
 obtain ⟨⟨t592, t595, t596, t599⟩, A50, H⟩ := H
 replace H : ((sleuthlaw21_some.f).bind fun t601 => ((sleuthlaw21_some.f).bind fun t608 => ((sleuthlaw21_some.f).bind fun t615 => ((sleuthlaw0_SameSession.f k t571 t574 t575 t615 1 ([] : List (S46))).bind fun t618 => (if t618 = true then ((sleuthlaw0_Num.f t578).bind fun t619 => (if t619 = 0 then ((sleuthlaw0_Num.f t587).bind fun t620 => (if t620 = 2100 then ((sleuthlaw0_Num.f t599).bind fun t621 => (if t621 = 2100 then ((session_May.f k t571 t574 t575).bind fun t622 => (if t622 = true then ((session_May.f k t601 0 (([(⟨0, 2⟩ : S46), (⟨1, 1⟩ : S46)] : List (S46)))).bind fun t623 => (if t623 = true then ((session_May.f k t608 0 (([(⟨0, 2⟩ : S46), (⟨2, 1⟩ : S46)] : List (S46)))).bind fun t624 => (some (!t624))) else (none))) else (none))) else (none))) else (none))) else (none))) else (none)))))) = some r := H
 have A5 := a_ A50
 clear A50
 replace H := Option.bind_eq_some_iff.mp H
 obtain ⟨t601, A60, H⟩ := H
 replace H : ((sleuthlaw21_some.f).bind fun t608 => ((sleuthlaw21_some.f).bind fun t615 => ((sleuthlaw0_SameSession.f k t571 t574 t575 t615 1 ([] : List (S46))).bind fun t618 => (if t618 = true then ((sleuthlaw0_Num.f t578).bind fun t619 => (if t619 = 0 then ((sleuthlaw0_Num.f t587).bind fun t620 => (if t620 = 2100 then ((sleuthlaw0_Num.f t599).bind fun t621 => (if t621 = 2100 then ((session_May.f k t571 t574 t575).bind fun t622 => (if t622 = true then ((session_May.f k t601 0 (([(⟨0, 2⟩ : S46), (⟨1, 1⟩ : S46)] : List (S46)))).bind fun t623 => (if t623 = true then ((session_May.f k t608 0 (([(⟨0, 2⟩ : S46), (⟨2, 1⟩ : S46)] : List (S46)))).bind fun t624 => (some (!t624))) else (none))) else (none))) else (none))) else (none))) else (none))) else (none))))) = some r := H
 have A6 := a_ A60
 clear A60
 obtain ⟨y604, hy604⟩ : ∃ y_ : List (S46), y_ = (([(⟨0, 2⟩ : S46), (⟨1, 1⟩ : S46)] : List (S46))) := ⟨_, rfl⟩
 replace H : ((sleuthlaw21_some.f).bind fun t608 => ((sleuthlaw21_some.f).bind fun t615 => ((sleuthlaw0_SameSession.f k t571 t574 t575 t615 1 ([] : List (S46))).bind fun t618 => (if t618 = true then ((sleuthlaw0_Num.f t578).bind fun t619 => (if t619 = 0 then ((sleuthlaw0_Num.f t587).bind fun t620 => (if t620 = 2100 then ((sleuthlaw0_Num.f t599).bind fun t621 => (if t621 = 2100 then ((session_May.f k t571 t574 t575).bind fun t622 => (if t622 = true then ((session_May.f k t601 0 y604).bind fun t623 => (if t623 = true then ((session_May.f k t608 0 (([(⟨0, 2⟩ : S46), (⟨2, 1⟩ : S46)] : List (S46)))).bind fun t624 => (some (!t624))) else (none))) else (none))) else (none))) else (none))) else (none))) else (none))))) = some r := by first | (rw [hy604]; with_reducible exact H) | (have H2_ := (Option.bind_some _ _).symm.trans H; rw [hy604]; with_reducible exact H2_) | (have H2_ := (Option.bind_some _ _).symm.trans H; with_reducible exact H2_) | with_reducible exact H | (rw [hy604]; exact H) | exact H
 have Ny604 := a_ hy604
 clear hy604
 replace H := Option.bind_eq_some_iff.mp H
 obtain ⟨t608, A70, H⟩ := H
 replace H : ((sleuthlaw21_some.f).bind fun t615 => ((sleuthlaw0_SameSession.f k t571 t574 t575 t615 1 ([] : List (S46))).bind fun t618 => (if t618 = true then ((sleuthlaw0_Num.f t578).bind fun t619 => (if t619 = 0 then ((sleuthlaw0_Num.f t587).bind fun t620 => (if t620 = 2100 then ((sleuthlaw0_Num.f t599).bind fun t621 => (if t621 = 2100 then ((session_May.f k t571 t574 t575).bind fun t622 => (if t622 = true then ((session_May.f k t601 0 y604).bind fun t623 => (if t623 = true then ((session_May.f k t608 0 (([(⟨0, 2⟩ : S46), (⟨2, 1⟩ : S46)] : List (S46)))).bind fun t624 => (some (!t624))) else (none))) else (none))) else (none))) else (none))) else (none))) else (none)))) = some r := H
 have A7 := a_ A70
 clear A70
 obtain ⟨y611, hy611⟩ : ∃ y_ : List (S46), y_ = (([(⟨0, 2⟩ : S46), (⟨2, 1⟩ : S46)] : List (S46))) := ⟨_, rfl⟩
 replace H : ((sleuthlaw21_some.f).bind fun t615 => ((sleuthlaw0_SameSession.f k t571 t574 t575 t615 1 ([] : List (S46))).bind fun t618 => (if t618 = true then ((sleuthlaw0_Num.f t578).bind fun t619 => (if t619 = 0 then ((sleuthlaw0_Num.f t587).bind fun t620 => (if t620 = 2100 then ((sleuthlaw0_Num.f t599).bind fun t621 => (if t621 = 2100 then ((session_May.f k t571 t574 t575).bind fun t622 => (if t622 = true then ((session_May.f k t601 0 y604).bind fun t623 => (if t623 = true then ((session_May.f k t608 0 y611).bind fun t624 => (some (!t624))) else (none))) else (none))) else (none))) else (none))) else (none))) else (none)))) = some r := by first | (rw [hy611]; with_reducible exact H) | (have H2_ := (Option.bind_some _ _).symm.trans H; rw [hy611]; with_reducible exact H2_) | (have H2_ := (Option.bind_some _ _).symm.trans H; with_reducible exact H2_) | with_reducible exact H | (rw [hy611]; exact H) | exact H
 have Ny611 := a_ hy611
 clear hy611
 replace H := Option.bind_eq_some_iff.mp H
 obtain ⟨t615, A80, H⟩ := H
 replace H : ((sleuthlaw0_SameSession.f k t571 t574 t575 t615 1 ([] : List (S46))).bind fun t618 => (if t618 = true then ((sleuthlaw0_Num.f t578).bind fun t619 => (if t619 = 0 then ((sleuthlaw0_Num.f t587).bind fun t620 => (if t620 = 2100 then ((sleuthlaw0_Num.f t599).bind fun t621 => (if t621 = 2100 then ((session_May.f k t571 t574 t575).bind fun t622 => (if t622 = true then ((session_May.f k t601 0 y604).bind fun t623 => (if t623 = true then ((session_May.f k t608 0 y611).bind fun t624 => (some (!t624))) else (none))) else (none))) else (none))) else (none))) else (none))) else (none))) = some r := H
 have A8 := a_ A80
 clear A80
 replace H := Option.bind_eq_some_iff.mp H
 obtain ⟨t618, A90, H⟩ := H
 replace H : (if t618 = true then ((sleuthlaw0_Num.f t578).bind fun t619 => (if t619 = 0 then ((sleuthlaw0_Num.f t587).bind fun t620 => (if t620 = 2100 then ((sleuthlaw0_Num.f t599).bind fun t621 => (if t621 = 2100 then ((session_May.f k t571 t574 t575).bind fun t622 => (if t622 = true then ((session_May.f k t601 0 y604).bind fun t623 => (if t623 = true then ((session_May.f k t608 0 y611).bind fun t624 => (some (!t624))) else (none))) else (none))) else (none))) else (none))) else (none))) else (none)) = some r := H
 have A9 := a_ A90
 clear A90
 by_cases c10 : t618 = true
 case neg =>
  replace c10 := Bool.eq_false_iff.mpr c10
  subst c10
  have H1 : (none) = some r := by rw [if_neg (show ¬ (false = true) by decide)] at H; exact H
  clear H
  have H := H1
  clear H1
  cases H
 subst c10
 have H1 : ((sleuthlaw0_Num.f t578).bind fun t619 => (if t619 = 0 then ((sleuthlaw0_Num.f t587).bind fun t620 => (if t620 = 2100 then ((sleuthlaw0_Num.f t599).bind fun t621 => (if t621 = 2100 then ((session_May.f k t571 t574 t575).bind fun t622 => (if t622 = true then ((session_May.f k t601 0 y604).bind fun t623 => (if t623 = true then ((session_May.f k t608 0 y611).bind fun t624 => (some (!t624))) else (none))) else (none))) else (none))) else (none))) else (none))) = some r := by rw [if_pos rfl] at H; exact H
 clear H
 have H := H1
 clear H1
 replace H := Option.bind_eq_some_iff.mp H
 obtain ⟨t619, A110, H⟩ := H
 replace H : (if t619 = 0 then ((sleuthlaw0_Num.f t587).bind fun t620 => (if t620 = 2100 then ((sleuthlaw0_Num.f t599).bind fun t621 => (if t621 = 2100 then ((session_May.f k t571 t574 t575).bind fun t622 => (if t622 = true then ((session_May.f k t601 0 y604).bind fun t623 => (if t623 = true then ((session_May.f k t608 0 y611).bind fun t624 => (some (!t624))) else (none))) else (none))) else (none))) else (none))) else (none)) = some r := H
 have A11 := a_ A110
 clear A110
 by_cases c12 : t619 = 0
 case neg =>
  rw [if_neg c12] at H
  have c12b0 : (t619 == 0) = false := beq_eq_false_iff_ne.mpr c12
  have c12b1 : (t619 != 0) = true := bne_iff_ne.mpr c12
  cases H
 rw [if_pos c12] at H
 have c12b0 : (t619 == 0) = true := beq_iff_eq.mpr c12
 have c12b1 : (t619 != 0) = false := bne_eq_false_iff_eq.mpr c12
 clear c12
 replace H := Option.bind_eq_some_iff.mp H
 obtain ⟨t620, A130, H⟩ := H
 replace H : (if t620 = 2100 then ((sleuthlaw0_Num.f t599).bind fun t621 => (if t621 = 2100 then ((session_May.f k t571 t574 t575).bind fun t622 => (if t622 = true then ((session_May.f k t601 0 y604).bind fun t623 => (if t623 = true then ((session_May.f k t608 0 y611).bind fun t624 => (some (!t624))) else (none))) else (none))) else (none))) else (none)) = some r := H
 have A13 := a_ A130
 clear A130
 by_cases c14 : t620 = 2100
 case neg =>
  rw [if_neg c14] at H
  have c14b0 : (t620 == 2100) = false := beq_eq_false_iff_ne.mpr c14
  have c14b1 : (t620 != 2100) = true := bne_iff_ne.mpr c14
  cases H
 rw [if_pos c14] at H
 have c14b0 : (t620 == 2100) = true := beq_iff_eq.mpr c14
 have c14b1 : (t620 != 2100) = false := bne_eq_false_iff_eq.mpr c14
 clear c14
 replace H := Option.bind_eq_some_iff.mp H
 obtain ⟨t621, A150, H⟩ := H
 replace H : (if t621 = 2100 then ((session_May.f k t571 t574 t575).bind fun t622 => (if t622 = true then ((session_May.f k t601 0 y604).bind fun t623 => (if t623 = true then ((session_May.f k t608 0 y611).bind fun t624 => (some (!t624))) else (none))) else (none))) else (none)) = some r := H
 have A15 := a_ A150
 clear A150
 by_cases c16 : t621 = 2100
 case neg =>
  rw [if_neg c16] at H
  have c16b0 : (t621 == 2100) = false := beq_eq_false_iff_ne.mpr c16
  have c16b1 : (t621 != 2100) = true := bne_iff_ne.mpr c16
  cases H
 rw [if_pos c16] at H
 have c16b0 : (t621 == 2100) = true := beq_iff_eq.mpr c16
 have c16b1 : (t621 != 2100) = false := bne_eq_false_iff_eq.mpr c16
 clear c16
 replace H := Option.bind_eq_some_iff.mp H
 obtain ⟨t622, A170, H⟩ := H
 replace H : (if t622 = true then ((session_May.f k t601 0 y604).bind fun t623 => (if t623 = true then ((session_May.f k t608 0 y611).bind fun t624 => (some (!t624))) else (none))) else (none)) = some r := H
 have A17 := a_ A170
 clear A170
 by_cases c18 : t622 = true
 case neg =>
  replace c18 := Bool.eq_false_iff.mpr c18
  subst c18
  have H1 : (none) = some r := by rw [if_neg (show ¬ (false = true) by decide)] at H; exact H
  clear H
  have H := H1
  clear H1
  cases H
 subst c18
 have H1 : ((session_May.f k t601 0 y604).bind fun t623 => (if t623 = true then ((session_May.f k t608 0 y611).bind fun t624 => (some (!t624))) else (none))) = some r := by rw [if_pos rfl] at H; exact H
 clear H
 have H := H1
 clear H1
 replace H := Option.bind_eq_some_iff.mp H
 obtain ⟨t623, A190, H⟩ := H
 replace H : (if t623 = true then ((session_May.f k t608 0 y611).bind fun t624 => (some (!t624))) else (none)) = some r := H
 have A19 := a_ A190
 clear A190
 by_cases c20 : t623 = true
 case neg =>
  replace c20 := Bool.eq_false_iff.mpr c20
  subst c20
  have H1 : (none) = some r := by rw [if_neg (show ¬ (false = true) by decide)] at H; exact H
  clear H
  have H := H1
  clear H1
  cases H
 subst c20
 have H1 : ((session_May.f k t608 0 y611).bind fun t624 => (some (!t624))) = some r := by rw [if_pos rfl] at H; exact H
 clear H
 have H := H1
 clear H1
 replace H := Option.bind_eq_some_iff.mp H
 obtain ⟨t624, A210, H⟩ := H
 replace H : (some (!t624)) = some r := H
 have A21 := a_ A210
 clear A210
 obtain rfl := Option.some.inj H
 go_enter Tryz.func23, Tryz.ntmps23
 try go_wp2_with (first | ((with_reducible refine gate_callee (f := 40) rfl ?_); refine goesL_ (some 10) rfl rfl Tryz.func40 (by kernel_rfl) rfl #[] rfl hL_ ?_; (with_reducible refine (sleuthlaw21_some.calls  t568 _ A1.out).mono ?_); rintro e w22 ⟨v569, rfl, ho0, hb⟩; refine ⟨_, rfl, ?_⟩; have HO570 := a_ (Kd.N_lower (Kd.N_mono (ok' := fun k_ => True) ho0 (fun k_ hk_ => trivial)) hS_); replace HB := a_ (below_step hB_ hb); (try clear hb); (try clear hb2); (try clear hk); (try clear hi); (try clear ho0); obtain ⟨Ao23, co23, eo23⟩ := Kd.N_slice HO570.out; subst eo23) | ((with_reducible refine gate_callee (f := 18) rfl ?_); refine goesL_ (some 11) rfl rfl Tryz.func18 (by kernel_rfl) rfl #[.slice Ao23 t568.length co23, .int .i64 1] rfl hL_ ?_; (with_reducible refine (session_New.calls k _ _ t568 1 t571 t574 t575 t578 _ ?side1 ?side2 A2.out hG_).mono ?_); (case side1 => repeat (first | exact (Kd.N_reads' HO570.out).2.2 | (with_reducible refine Kd.C_alloc ?_ _) | (with_reducible refine Kd.C_drewN ?_ _) | (with_reducible refine Kd.C_drew ?_))); (case side2 => exact (Kd.N_reads' HO570.out).2.1); rintro e w24 ⟨v572, v576, rfl, ho0, ho1, hb⟩; refine ⟨_, rfl, ?_⟩; have HO573 := a_ (Kd.N_lower (Kd.N_mono (ok' := fun k_ => some k_ ≠ (v576 : Value).ownBlock ∧ some k_ ≠ (.slice Ao23 t568.length co23 : Value).ownBlock) (Kd.S_N (Kd.S_bound (Kd.S_apart' ho0 (Kd.R_typed ho1) (by decide)))) (fun k_ hk_ => ⟨hk_.1.2, (Kd.fresh' (Kd.N_lt (hN_ HO570.out)) k_ hk_.2.1)⟩)) hS_); replace HO570 := a_ (Kd.N_mono (Kd.N_told (Kd.N_told (Kd.N_old (hN_ HO570.out) hb) (Kd.N_base (Kd.R_N (Kd.S_R ho0)))) (Kd.R_base ho1)) (fun _ h_ => h_.1)); have HO577 := a_ (Kd.R_lower ho1 hS_); replace HB := a_ (below_step hB_ hb); (try clear hb); (try clear hb2); (try clear hk); (try clear hi); (try clear ho0); (try clear ho1)) | ((with_reducible refine gate_dst (N := 1) rfl ?_); refine boxE_ 1 #[.slice none 0 0, .int .i64 0, .slice none 0 0] 25 ?_; intro gb579 hg w25 hbox hb; replace HO570 := a_ (Kd.N_below (Kd.N_elderB (hN_ HO570.out) gb579 (Nat.le_of_eq hg.symm)) hb); replace HO573 := a_ (Kd.N_below (Kd.N_elderB (hN_ HO573.out) gb579 (Nat.le_of_eq hg.symm)) hb); replace HO577 := a_ (Kd.R_below (hR_ HO577.out) hb); have BK579 := a_ (hbox); have GW579 := a_ ((gE_ hg : w.heap.size ≤ gb579)); have GE579 := a_ ((gE_ hg : w.heap.size ≤ gb579)); replace HB := a_ (below_step hB_ hb); clear hb hbox hg; obtain ⟨Ao26, co26, eo26⟩ := Kd.N_slice HO573.out; subst eo26; obtain ⟨hcz27_0, hcz27_1, hcz27_2, hfz27_0, hfz27_1, hfz27_2⟩ := bx3_ BK579.out; obtain ⟨Ao28, co28, eo28⟩ := Kd.R_slice HO577.out; subst eo28) | ((with_reducible refine gate_callee (f := 18) rfl ?_); refine goesL_ (some 15) rfl rfl Tryz.func18 (by kernel_rfl) rfl #[.slice none 0 0, .int .i64 0] rfl hL_ ?_; (refine (session_New.calls k _ _ ([] : List (S64)) 0 t580 t583 t584 t587 _ ?side1 ?side2 A3.out (by first | exact hG | exact GOK.below hG hC_)).mono ?_); (case side1 => exact Kd.C_nil _ _); (case side2 => exact Nat.le_refl _); rintro e w29 ⟨v581, v585, rfl, ho0, ho1, hb⟩; refine ⟨_, rfl, ?_⟩; have HO582 := a_ (Kd.N_lower (Kd.N_mono (ok' := fun k_ => some k_ ≠ (v585 : Value).ownBlock ∧ some k_ ≠ (.slice Ao23 t568.length co23 : Value).ownBlock ∧ some k_ ≠ (.slice Ao26 t571.length co26 : Value).ownBlock ∧ some k_ ≠ (.slice Ao28 t575.length co28 : Value).ownBlock ∧ k_ ≠ gb579) (Kd.S_N (Kd.S_bound (Kd.S_apart' ho0 (Kd.R_typed ho1) (by decide)))) (fun k_ hk_ => ⟨hk_.1.2, (Kd.fresh' (Kd.N_lt (by (with_reducible repeat (first | apply Kd.N_alloc | apply Kd.N_drewN | apply Kd.N_drew)); exact (Kd.N_mono (nF_ (nF_ (nF_ (Kd.N_mono HO570.out (fun k_ hk => (⟨hk, hk.2⟩ : _ ∧ k_ ≠ gb579)))))) (fun _ h_ => h_.1)))) k_ hk_.2.1), (Kd.fresh' (Kd.N_lt (by (with_reducible repeat (first | apply Kd.N_alloc | apply Kd.N_drewN | apply Kd.N_drew)); exact (Kd.N_mono (nF_ (nF_ (nF_ (Kd.N_mono HO573.out (fun k_ hk => (⟨hk, hk.2⟩ : _ ∧ k_ ≠ gb579)))))) (fun _ h_ => h_.1)))) k_ hk_.2.1), (Kd.fresh' (Kd.R_lt (by (with_reducible repeat (first | apply Kd.R_alloc | apply Kd.R_drewN | apply Kd.R_drew)); exact (Kd.R_mono (rF_ (rF_ (rF_ (Kd.R_types HO577.out BK579.out (by decide))))) (fun _ h_ => h_.1)))) k_ hk_.2.1), (Kd.freshB (g := gb579) (o := .cells #[.slice Ao26 t571.length co26, .int .i64 t574, .slice Ao28 t575.length co28] 25 (0, 0)) (bP_ (bP_ (bP_ (hK_ BK579.out)))) k_ hk_.2.1)⟩)) (below_size hC_)); replace HO570 := a_ (Kd.N_mono (Kd.N_told (Kd.N_told (Kd.N_old (by (with_reducible repeat (first | apply Kd.N_alloc | apply Kd.N_drewN | apply Kd.N_drew)); exact (Kd.N_mono (nF_ (nF_ (nF_ (Kd.N_mono HO570.out (fun k_ hk => (⟨hk, hk.2⟩ : _ ∧ k_ ≠ gb579)))))) (fun _ h_ => h_.1))) hb) (Kd.N_base (Kd.R_N (Kd.S_R ho0)))) (Kd.R_base ho1)) (fun _ h_ => h_.1)); replace HO573 := a_ (Kd.N_mono (Kd.N_told (Kd.N_told (Kd.N_old (by (with_reducible repeat (first | apply Kd.N_alloc | apply Kd.N_drewN | apply Kd.N_drew)); exact (Kd.N_mono (nF_ (nF_ (nF_ (Kd.N_mono HO573.out (fun k_ hk => (⟨hk, hk.2⟩ : _ ∧ k_ ≠ gb579)))))) (fun _ h_ => h_.1))) hb) (Kd.N_base (Kd.R_N (Kd.S_R ho0)))) (Kd.R_base ho1)) (fun _ h_ => h_.1)); have HO586 := a_ (Kd.R_lower (Kd.R_new' ho1 (Kd.R_lt (by (with_reducible repeat (first | apply Kd.R_alloc | apply Kd.R_drewN | apply Kd.R_drew)); exact (Kd.R_mono (rF_ (rF_ (rF_ (Kd.R_types HO577.out BK579.out (by decide))))) (fun _ h_ => h_.1))))) (below_size hC_)); replace HO577 := a_ (Kd.R_elder' (by (with_reducible repeat (first | apply Kd.R_alloc | apply Kd.R_drewN | apply Kd.R_drew)); exact (Kd.R_mono (rF_ (rF_ (rF_ (Kd.R_types HO577.out BK579.out (by decide))))) (fun _ h_ => h_.1))) (Kd.R_base ho1) hb); replace BK579 := a_ (blk_below (g := gb579) (o := .cells #[.slice Ao26 t571.length co26, .int .i64 t574, .slice Ao28 t575.length co28] 25 (0, 0)) (bP_ (bP_ (bP_ (hK_ BK579.out)))) hb); replace HB := a_ (below_step hC_ hb); (try clear hb); (try clear hb2); (try clear hk); (try clear hi); (try clear ho0); (try clear ho1)) | ((with_reducible refine gate_dst (N := 3) rfl ?_); refine boxE_ 3 #[.slice none 0 0, .int .i64 0, .slice none 0 0] 25 ?_; intro gb588 hg w30 hbox hb; replace HO570 := a_ (Kd.N_below (Kd.N_elderB (hN_ HO570.out) gb588 (Nat.le_of_eq hg.symm)) hb); replace HO573 := a_ (Kd.N_below (Kd.N_elderB (hN_ HO573.out) gb588 (Nat.le_of_eq hg.symm)) hb); replace HO577 := a_ (Kd.R_below (hR_ HO577.out) hb); replace HO582 := a_ (Kd.N_below (Kd.N_elderB (hN_ HO582.out) gb588 (Nat.le_of_eq hg.symm)) hb); replace HO586 := a_ (Kd.R_below (hR_ HO586.out) hb); have BK588 := a_ (hbox); have GW588 := a_ ((gE_ hg : w.heap.size ≤ gb588)); have GE588 := a_ ((gE_ hg : w.heap.size ≤ gb588)); replace HB := a_ (below_step hC_ hb); have NB579_588 := a_ ((bL_ BK579.out hg : gb579 ≠ gb588)); have NB588_579 := a_ ((bG_ BK579.out hg : gb588 ≠ gb579)); replace BK579 := a_ (bB_ BK579.out hb); clear hb hbox hg; obtain ⟨Ao31, co31, eo31⟩ := Kd.N_slice HO582.out; subst eo31; have hnb32 := NB588_579.out; have hnc32 := NB579_588.out; obtain ⟨hcz33_0, hcz33_1, hcz33_2, hfz33_0, hfz33_1, hfz33_2⟩ := bx3_ BK588.out; obtain ⟨Ao34, co34, eo34⟩ := Kd.R_slice HO586.out; subst eo34) | ((with_reducible refine gate_callee (f := 40) rfl ?_); refine goesL_ (some 19) rfl rfl Tryz.func40 (by kernel_rfl) rfl #[] rfl hL_ ?_; (with_reducible refine (sleuthlaw21_some.calls  t589 _ A4.out).mono ?_); rintro e w35 ⟨v590, rfl, ho0, hb⟩; refine ⟨_, rfl, ?_⟩; have HO591 := a_ (Kd.N_lower (Kd.N_mono (ok' := fun k_ => some k_ ≠ (.slice Ao23 t568.length co23 : Value).ownBlock ∧ some k_ ≠ (.slice Ao26 t571.length co26 : Value).ownBlock ∧ some k_ ≠ (.slice Ao28 t575.length co28 : Value).ownBlock ∧ some k_ ≠ (.slice Ao31 t580.length co31 : Value).ownBlock ∧ some k_ ≠ (.slice Ao34 t584.length co34 : Value).ownBlock ∧ k_ ≠ gb579 ∧ k_ ≠ gb588) ho0 (fun k_ hk_ => ⟨(Kd.fresh' (Kd.N_lt (by (with_reducible repeat (first | apply Kd.N_alloc | apply Kd.N_drewN | apply Kd.N_drew)); exact (Kd.N_mono (nF_ (nF_ (nF_ (Kd.N_mono HO570.out (fun k_ hk => (⟨hk, hk.2⟩ : _ ∧ k_ ≠ gb588)))))) (fun _ h_ => h_.1)))) k_ hk_), (Kd.fresh' (Kd.N_lt (by (with_reducible repeat (first | apply Kd.N_alloc | apply Kd.N_drewN | apply Kd.N_drew)); exact (Kd.N_mono (nF_ (nF_ (nF_ (Kd.N_mono HO573.out (fun k_ hk => (⟨hk, hk.2⟩ : _ ∧ k_ ≠ gb588)))))) (fun _ h_ => h_.1)))) k_ hk_), (Kd.fresh' (Kd.R_lt (by (with_reducible repeat (first | apply Kd.R_alloc | apply Kd.R_drewN | apply Kd.R_drew)); exact (Kd.R_mono (rF_ (rF_ (rF_ (Kd.R_types HO577.out BK588.out (by decide))))) (fun _ h_ => h_.1)))) k_ hk_), (Kd.fresh' (Kd.N_lt (by (with_reducible repeat (first | apply Kd.N_alloc | apply Kd.N_drewN | apply Kd.N_drew)); exact (Kd.N_mono (nF_ (nF_ (nF_ (Kd.N_mono HO582.out (fun k_ hk => (⟨hk, hk.2⟩ : _ ∧ k_ ≠ gb588)))))) (fun _ h_ => h_.1)))) k_ hk_), (Kd.fresh' (Kd.R_lt (by (with_reducible repeat (first | apply Kd.R_alloc | apply Kd.R_drewN | apply Kd.R_drew)); exact (Kd.R_mono (rF_ (rF_ (rF_ (Kd.R_types HO586.out BK588.out (by decide))))) (fun _ h_ => h_.1)))) k_ hk_), (Kd.freshB (g := gb579) (o := .cells #[.slice Ao26 t571.length co26, .int .i64 t574, .slice Ao28 t575.length co28] 25 (0, 0)) (bF_ (bF_ (bF_ (hK_ BK579.out) NB579_588.out) NB579_588.out) NB579_588.out) k_ hk_), (Kd.freshB (g := gb588) (o := .cells #[.slice Ao31 t580.length co31, .int .i64 t583, .slice Ao34 t584.length co34] 25 (0, 0)) (bP_ (bP_ (bP_ (hK_ BK588.out)))) k_ hk_)⟩)) (below_size hC_)); replace HO570 := a_ (Kd.N_elder' (by (with_reducible repeat (first | apply Kd.N_alloc | apply Kd.N_drewN | apply Kd.N_drew)); exact (Kd.N_mono (nF_ (nF_ (nF_ (Kd.N_mono HO570.out (fun k_ hk => (⟨hk, hk.2⟩ : _ ∧ k_ ≠ gb588)))))) (fun _ h_ => h_.1))) (Kd.N_base ho0) hb); replace HO573 := a_ (Kd.N_elder' (by (with_reducible repeat (first | apply Kd.N_alloc | apply Kd.N_drewN | apply Kd.N_drew)); exact (Kd.N_mono (nF_ (nF_ (nF_ (Kd.N_mono HO573.out (fun k_ hk => (⟨hk, hk.2⟩ : _ ∧ k_ ≠ gb588)))))) (fun _ h_ => h_.1))) (Kd.N_base ho0) hb); replace HO577 := a_ (Kd.R_below (by (with_reducible repeat (first | apply Kd.R_alloc | apply Kd.R_drewN | apply Kd.R_drew)); exact (Kd.R_mono (rF_ (rF_ (rF_ (Kd.R_types HO577.out BK588.out (by decide))))) (fun _ h_ => h_.1))) hb); replace HO582 := a_ (Kd.N_elder' (by (with_reducible repeat (first | apply Kd.N_alloc | apply Kd.N_drewN | apply Kd.N_drew)); exact (Kd.N_mono (nF_ (nF_ (nF_ (Kd.N_mono HO582.out (fun k_ hk => (⟨hk, hk.2⟩ : _ ∧ k_ ≠ gb588)))))) (fun _ h_ => h_.1))) (Kd.N_base ho0) hb); replace HO586 := a_ (Kd.R_below (by (with_reducible repeat (first | apply Kd.R_alloc | apply Kd.R_drewN | apply Kd.R_drew)); exact (Kd.R_mono (rF_ (rF_ (rF_ (Kd.R_types HO586.out BK588.out (by decide))))) (fun _ h_ => h_.1))) hb); replace BK579 := a_ (blk_below (g := gb579) (o := .cells #[.slice Ao26 t571.length co26, .int .i64 t574, .slice Ao28 t575.length co28] 25 (0, 0)) (bF_ (bF_ (bF_ (hK_ BK579.out) NB579_588.out) NB579_588.out) NB579_588.out) hb); replace BK588 := a_ (blk_below (g := gb588) (o := .cells #[.slice Ao31 t580.length co31, .int .i64 t583, .slice Ao34 t584.length co34] 25 (0, 0)) (bP_ (bP_ (bP_ (hK_ BK588.out)))) hb); replace HB := a_ (below_step hC_ hb); (try clear hb); (try clear hb2); (try clear hk); (try clear hi); (try clear ho0); obtain ⟨Ao36, co36, eo36⟩ := Kd.N_slice HO591.out; subst eo36) | ((with_reducible refine gate_callee (f := 18) rfl ?_); refine goesL_ (some 20) rfl rfl Tryz.func18 (by kernel_rfl) rfl #[.slice Ao36 t589.length co36, .int .i64 2] rfl hL_ ?_; (with_reducible refine (session_New.calls k _ _ t589 2 t592 t595 t596 t599 _ ?side1 ?side2 A5.out (by first | exact hG | exact GOK.below hG hC_)).mono ?_); (case side1 => repeat (first | exact (Kd.N_reads' HO591.out).2.2 | (with_reducible refine Kd.C_alloc ?_ _) | (with_reducible refine Kd.C_drewN ?_ _) | (with_reducible refine Kd.C_drew ?_))); (case side2 => exact (Kd.N_reads' HO591.out).2.1); rintro e w37 ⟨v593, v597, rfl, ho0, ho1, hb⟩; refine ⟨_, rfl, ?_⟩; have HO594 := a_ (Kd.N_lower (Kd.N_mono (ok' := fun k_ => some k_ ≠ (v597 : Value).ownBlock ∧ some k_ ≠ (.slice Ao23 t568.length co23 : Value).ownBlock ∧ some k_ ≠ (.slice Ao26 t571.length co26 : Value).ownBlock ∧ some k_ ≠ (.slice Ao28 t575.length co28 : Value).ownBlock ∧ some k_ ≠ (.slice Ao31 t580.length co31 : Value).ownBlock ∧ some k_ ≠ (.slice Ao34 t584.length co34 : Value).ownBlock ∧ some k_ ≠ (.slice Ao36 t589.length co36 : Value).ownBlock ∧ k_ ≠ gb579 ∧ k_ ≠ gb588) (Kd.S_N (Kd.S_bound (Kd.S_apart' ho0 (Kd.R_typed ho1) (by decide)))) (fun k_ hk_ => ⟨hk_.1.2, (Kd.fresh' (Kd.N_lt (hN_ HO570.out)) k_ hk_.2.1), (Kd.fresh' (Kd.N_lt (hN_ HO573.out)) k_ hk_.2.1), (Kd.fresh' (Kd.R_lt (hR_ HO577.out)) k_ hk_.2.1), (Kd.fresh' (Kd.N_lt (hN_ HO582.out)) k_ hk_.2.1), (Kd.fresh' (Kd.R_lt (hR_ HO586.out)) k_ hk_.2.1), (Kd.fresh' (Kd.N_lt (hN_ HO591.out)) k_ hk_.2.1), (Kd.freshB (g := gb579) (o := .cells #[.slice Ao26 t571.length co26, .int .i64 t574, .slice Ao28 t575.length co28] 25 (0, 0)) (hK_ BK579.out) k_ hk_.2.1), (Kd.freshB (g := gb588) (o := .cells #[.slice Ao31 t580.length co31, .int .i64 t583, .slice Ao34 t584.length co34] 25 (0, 0)) (hK_ BK588.out) k_ hk_.2.1)⟩)) (below_size hC_)); replace HO570 := a_ (Kd.N_mono (Kd.N_told (Kd.N_told (Kd.N_old (hN_ HO570.out) hb) (Kd.N_base (Kd.R_N (Kd.S_R ho0)))) (Kd.R_base ho1)) (fun _ h_ => h_.1)); replace HO573 := a_ (Kd.N_mono (Kd.N_told (Kd.N_told (Kd.N_old (hN_ HO573.out) hb) (Kd.N_base (Kd.R_N (Kd.S_R ho0)))) (Kd.R_base ho1)) (fun _ h_ => h_.1)); replace HO582 := a_ (Kd.N_mono (Kd.N_told (Kd.N_told (Kd.N_old (hN_ HO582.out) hb) (Kd.N_base (Kd.R_N (Kd.S_R ho0)))) (Kd.R_base ho1)) (fun _ h_ => h_.1)); replace HO591 := a_ (Kd.N_mono (Kd.N_told (Kd.N_told (Kd.N_old (hN_ HO591.out) hb) (Kd.N_base (Kd.R_N (Kd.S_R ho0)))) (Kd.R_base ho1)) (fun _ h_ => h_.1)); have HO598 := a_ (Kd.R_lower (Kd.R_new' (Kd.R_new' ho1 (Kd.R_lt (hR_ HO577.out))) (Kd.R_lt (hR_ HO586.out))) (below_size hC_)); replace HO577 := a_ (Kd.R_elder' (hR_ HO577.out) (Kd.R_base ho1) hb); replace HO586 := a_ (Kd.R_elder' (hR_ HO586.out) (Kd.R_base ho1) hb); replace BK579 := a_ (bB_ BK579.out hb); replace BK588 := a_ (bB_ BK588.out hb); replace HB := a_ (below_step hC_ hb); (try clear hb); (try clear hb2); (try clear hk); (try clear hi); (try clear ho0); (try clear ho1)) | ((with_reducible refine gate_dst (N := 5) rfl ?_); refine boxE_ 5 #[.slice none 0 0, .int .i64 0, .slice none 0 0] 25 ?_; intro gb600 hg w38 hbox hb; replace HO570 := a_ (Kd.N_below (Kd.N_elderB (hN_ HO570.out) gb600 (Nat.le_of_eq hg.symm)) hb); replace HO573 := a_ (Kd.N_below (Kd.N_elderB (hN_ HO573.out) gb600 (Nat.le_of_eq hg.symm)) hb); replace HO577 := a_ (Kd.R_below (hR_ HO577.out) hb); replace HO582 := a_ (Kd.N_below (Kd.N_elderB (hN_ HO582.out) gb600 (Nat.le_of_eq hg.symm)) hb); replace HO586 := a_ (Kd.R_below (hR_ HO586.out) hb); replace HO591 := a_ (Kd.N_below (Kd.N_elderB (hN_ HO591.out) gb600 (Nat.le_of_eq hg.symm)) hb); replace HO594 := a_ (Kd.N_below (Kd.N_elderB (hN_ HO594.out) gb600 (Nat.le_of_eq hg.symm)) hb); replace HO598 := a_ (Kd.R_below (hR_ HO598.out) hb); have BK600 := a_ (hbox); have GW600 := a_ ((gE_ hg : w.heap.size ≤ gb600)); have GE600 := a_ ((gE_ hg : w.heap.size ≤ gb600)); replace HB := a_ (below_step hC_ hb); have NB579_600 := a_ ((bL_ BK579.out hg : gb579 ≠ gb600)); have NB600_579 := a_ ((bG_ BK579.out hg : gb600 ≠ gb579)); replace BK579 := a_ (bB_ BK579.out hb); have NB588_600 := a_ ((bL_ BK588.out hg : gb588 ≠ gb600)); have NB600_588 := a_ ((bG_ BK588.out hg : gb600 ≠ gb588)); replace BK588 := a_ (bB_ BK588.out hb); clear hb hbox hg; obtain ⟨Ao39, co39, eo39⟩ := Kd.N_slice HO594.out; subst eo39; have hnb40 := NB600_579.out; have hnc40 := NB579_600.out; have hnb41 := NB600_588.out; have hnc41 := NB588_600.out; obtain ⟨hcz42_0, hcz42_1, hcz42_2, hfz42_0, hfz42_1, hfz42_2⟩ := bx3_ BK600.out; obtain ⟨Ao43, co43, eo43⟩ := Kd.R_slice HO598.out; subst eo43) | ((with_reducible refine gate_callee (f := 40) rfl ?_); refine goesL_ (some 23) rfl rfl Tryz.func40 (by kernel_rfl) rfl #[] rfl hL_ ?_; (with_reducible refine (sleuthlaw21_some.calls  t601 _ A6.out).mono ?_); rintro e w44 ⟨v602, rfl, ho0, hb⟩; refine ⟨_, rfl, ?_⟩; have HO603 := a_ (Kd.N_lower (Kd.N_mono (ok' := fun k_ => some k_ ≠ (.slice Ao23 t568.length co23 : Value).ownBlock ∧ some k_ ≠ (.slice Ao26 t571.length co26 : Value).ownBlock ∧ some k_ ≠ (.slice Ao28 t575.length co28 : Value).ownBlock ∧ some k_ ≠ (.slice Ao31 t580.length co31 : Value).ownBlock ∧ some k_ ≠ (.slice Ao34 t584.length co34 : Value).ownBlock ∧ some k_ ≠ (.slice Ao36 t589.length co36 : Value).ownBlock ∧ some k_ ≠ (.slice Ao39 t592.length co39 : Value).ownBlock ∧ some k_ ≠ (.slice Ao43 t596.length co43 : Value).ownBlock ∧ k_ ≠ gb579 ∧ k_ ≠ gb588 ∧ k_ ≠ gb600) ho0 (fun k_ hk_ => ⟨(Kd.fresh' (Kd.N_lt (by (with_reducible repeat (first | apply Kd.N_alloc | apply Kd.N_drewN | apply Kd.N_drew)); exact (Kd.N_mono (nF_ (nF_ (nF_ (Kd.N_mono HO570.out (fun k_ hk => (⟨hk, hk.2⟩ : _ ∧ k_ ≠ gb600)))))) (fun _ h_ => h_.1)))) k_ hk_), (Kd.fresh' (Kd.N_lt (by (with_reducible repeat (first | apply Kd.N_alloc | apply Kd.N_drewN | apply Kd.N_drew)); exact (Kd.N_mono (nF_ (nF_ (nF_ (Kd.N_mono HO573.out (fun k_ hk => (⟨hk, hk.2⟩ : _ ∧ k_ ≠ gb600)))))) (fun _ h_ => h_.1)))) k_ hk_), (Kd.fresh' (Kd.R_lt (by (with_reducible repeat (first | apply Kd.R_alloc | apply Kd.R_drewN | apply Kd.R_drew)); exact (Kd.R_mono (rF_ (rF_ (rF_ (Kd.R_types HO577.out BK600.out (by decide))))) (fun _ h_ => h_.1)))) k_ hk_), (Kd.fresh' (Kd.N_lt (by (with_reducible repeat (first | apply Kd.N_alloc | apply Kd.N_drewN | apply Kd.N_drew)); exact (Kd.N_mono (nF_ (nF_ (nF_ (Kd.N_mono HO582.out (fun k_ hk => (⟨hk, hk.2⟩ : _ ∧ k_ ≠ gb600)))))) (fun _ h_ => h_.1)))) k_ hk_), (Kd.fresh' (Kd.R_lt (by (with_reducible repeat (first | apply Kd.R_alloc | apply Kd.R_drewN | apply Kd.R_drew)); exact (Kd.R_mono (rF_ (rF_ (rF_ (Kd.R_types HO586.out BK600.out (by decide))))) (fun _ h_ => h_.1)))) k_ hk_), (Kd.fresh' (Kd.N_lt (by (with_reducible repeat (first | apply Kd.N_alloc | apply Kd.N_drewN | apply Kd.N_drew)); exact (Kd.N_mono (nF_ (nF_ (nF_ (Kd.N_mono HO591.out (fun k_ hk => (⟨hk, hk.2⟩ : _ ∧ k_ ≠ gb600)))))) (fun _ h_ => h_.1)))) k_ hk_), (Kd.fresh' (Kd.N_lt (by (with_reducible repeat (first | apply Kd.N_alloc | apply Kd.N_drewN | apply Kd.N_drew)); exact (Kd.N_mono (nF_ (nF_ (nF_ (Kd.N_mono HO594.out (fun k_ hk => (⟨hk, hk.2⟩ : _ ∧ k_ ≠ gb600)))))) (fun _ h_ => h_.1)))) k_ hk_), (Kd.fresh' (Kd.R_lt (by (with_reducible repeat (first | apply Kd.R_alloc | apply Kd.R_drewN | apply Kd.R_drew)); exact (Kd.R_mono (rF_ (rF_ (rF_ (Kd.R_types HO598.out BK600.out (by decide))))) (fun _ h_ => h_.1)))) k_ hk_), (Kd.freshB (g := gb579) (o := .cells #[.slice Ao26 t571.length co26, .int .i64 t574, .slice Ao28 t575.length co28] 25 (0, 0)) (bF_ (bF_ (bF_ (hK_ BK579.out) NB579_600.out) NB579_600.out) NB579_600.out) k_ hk_), (Kd.freshB (g := gb588) (o := .cells #[.slice Ao31 t580.length co31, .int .i64 t583, .slice Ao34 t584.length co34] 25 (0, 0)) (bF_ (bF_ (bF_ (hK_ BK588.out) NB588_600.out) NB588_600.out) NB588_600.out) k_ hk_), (Kd.freshB (g := gb600) (o := .cells #[.slice Ao39 t592.length co39, .int .i64 t595, .slice Ao43 t596.length co43] 25 (0, 0)) (bP_ (bP_ (bP_ (hK_ BK600.out)))) k_ hk_)⟩)) (below_size hC_)); replace HO570 := a_ (Kd.N_elder' (by (with_reducible repeat (first | apply Kd.N_alloc | apply Kd.N_drewN | apply Kd.N_drew)); exact (Kd.N_mono (nF_ (nF_ (nF_ (Kd.N_mono HO570.out (fun k_ hk => (⟨hk, hk.2⟩ : _ ∧ k_ ≠ gb600)))))) (fun _ h_ => h_.1))) (Kd.N_base ho0) hb); replace HO573 := a_ (Kd.N_elder' (by (with_reducible repeat (first | apply Kd.N_alloc | apply Kd.N_drewN | apply Kd.N_drew)); exact (Kd.N_mono (nF_ (nF_ (nF_ (Kd.N_mono HO573.out (fun k_ hk => (⟨hk, hk.2⟩ : _ ∧ k_ ≠ gb600)))))) (fun _ h_ => h_.1))) (Kd.N_base ho0) hb); replace HO577 := a_ (Kd.R_below (by (with_reducible repeat (first | apply Kd.R_alloc | apply Kd.R_drewN | apply Kd.R_drew)); exact (Kd.R_mono (rF_ (rF_ (rF_ (Kd.R_types HO577.out BK600.out (by decide))))) (fun _ h_ => h_.1))) hb); replace HO582 := a_ (Kd.N_elder' (by (with_reducible repeat (first | apply Kd.N_alloc | apply Kd.N_drewN | apply Kd.N_drew)); exact (Kd.N_mono (nF_ (nF_ (nF_ (Kd.N_mono HO582.out (fun k_ hk => (⟨hk, hk.2⟩ : _ ∧ k_ ≠ gb600)))))) (fun _ h_ => h_.1))) (Kd.N_base ho0) hb); replace HO586 := a_ (Kd.R_below (by (with_reducible repeat (first | apply Kd.R_alloc | apply Kd.R_drewN | apply Kd.R_drew)); exact (Kd.R_mono (rF_ (rF_ (rF_ (Kd.R_types HO586.out BK600.out (by decide))))) (fun _ h_ => h_.1))) hb); replace HO591 := a_ (Kd.N_elder' (by (with_reducible repeat (first | apply Kd.N_alloc | apply Kd.N_drewN | apply Kd.N_drew)); exact (Kd.N_mono (nF_ (nF_ (nF_ (Kd.N_mono HO591.out (fun k_ hk => (⟨hk, hk.2⟩ : _ ∧ k_ ≠ gb600)))))) (fun _ h_ => h_.1))) (Kd.N_base ho0) hb); replace HO594 := a_ (Kd.N_elder' (by (with_reducible repeat (first | apply Kd.N_alloc | apply Kd.N_drewN | apply Kd.N_drew)); exact (Kd.N_mono (nF_ (nF_ (nF_ (Kd.N_mono HO594.out (fun k_ hk => (⟨hk, hk.2⟩ : _ ∧ k_ ≠ gb600)))))) (fun _ h_ => h_.1))) (Kd.N_base ho0) hb); replace HO598 := a_ (Kd.R_below (by (with_reducible repeat (first | apply Kd.R_alloc | apply Kd.R_drewN | apply Kd.R_drew)); exact (Kd.R_mono (rF_ (rF_ (rF_ (Kd.R_types HO598.out BK600.out (by decide))))) (fun _ h_ => h_.1))) hb); replace BK579 := a_ (blk_below (g := gb579) (o := .cells #[.slice Ao26 t571.length co26, .int .i64 t574, .slice Ao28 t575.length co28] 25 (0, 0)) (bF_ (bF_ (bF_ (hK_ BK579.out) NB579_600.out) NB579_600.out) NB579_600.out) hb); replace BK588 := a_ (blk_below (g := gb588) (o := .cells #[.slice Ao31 t580.length co31, .int .i64 t583, .slice Ao34 t584.length co34] 25 (0, 0)) (bF_ (bF_ (bF_ (hK_ BK588.out) NB588_600.out) NB588_600.out) NB588_600.out) hb); replace BK600 := a_ (blk_below (g := gb600) (o := .cells #[.slice Ao39 t592.length co39, .int .i64 t595, .slice Ao43 t596.length co43] 25 (0, 0)) (bP_ (bP_ (bP_ (hK_ BK600.out)))) hb); replace HB := a_ (below_step hC_ hb); (try clear hb); (try clear hb2); (try clear hk); (try clear hi); (try clear ho0)) | ((with_reducible refine gate_dst (N := 26) rfl ?_); refine Kd.R_lit k46 _ 46 ?hg (N := 26) ?hd (xs := ([(⟨0, 2⟩ : S46), (⟨1, 1⟩ : S46)] : List (S46))) (inner := [.int .i64 0, .int .i64 2, .int .i64 1, .int .i64 1]) (ok := fun _ => True) (okp := fun _ => True) ?hr ?hp (fun _ hk => hk) trivial (Below.refl _ _) (Nat.le_refl _) (by simp) ?_; (case hd => rfl); (case hg => rfl); (case hr => first | (go_simp; done) | (go_simp; rfl)); (case hp => exact (Reps.c2 (show Kd.M k46 _ _ _ (⟨0, 2⟩ : S46) [.int .i64 0, .int .i64 2] from (k46_mkM _ _ _ (⟨0, 2⟩ : S46) )) (Reps.c2 (show Kd.M k46 _ _ _ (⟨1, 1⟩ : S46) [.int .i64 1, .int .i64 1] from (k46_mkM _ _ _ (⟨1, 1⟩ : S46) )) (Reps.none _ _)))); intro v605 w45 ho46 hb hg_ hnew_; clear hg_ hnew_; (first | rw [← Ny604.out] at ho46 | (simp only [Int.reduceToNat] at ho46; rw [← Ny604.out] at ho46)); replace HO570 := a_ (Kd.N_elder' (hN_ HO570.out) (Kd.R_base ho46) hb); replace HO573 := a_ (Kd.N_elder' (hN_ HO573.out) (Kd.R_base ho46) hb); replace HO582 := a_ (Kd.N_elder' (hN_ HO582.out) (Kd.R_base ho46) hb); replace HO591 := a_ (Kd.N_elder' (hN_ HO591.out) (Kd.R_base ho46) hb); replace HO594 := a_ (Kd.N_elder' (hN_ HO594.out) (Kd.R_base ho46) hb); replace HO603 := a_ (Kd.N_elder' (hN_ HO603.out) (Kd.R_base ho46) hb); have HO606 := a_ (Kd.R_lower (Kd.R_new' (Kd.R_new' (Kd.R_new' ho46 (Kd.R_lt (hR_ HO577.out))) (Kd.R_lt (hR_ HO586.out))) (Kd.R_lt (hR_ HO598.out))) (below_size hC_)); replace HO577 := a_ (Kd.R_elder' (hR_ HO577.out) (Kd.R_base ho46) hb); replace HO586 := a_ (Kd.R_elder' (hR_ HO586.out) (Kd.R_base ho46) hb); replace HO598 := a_ (Kd.R_elder' (hR_ HO598.out) (Kd.R_base ho46) hb); replace BK579 := a_ (bB_ BK579.out hb); replace BK588 := a_ (bB_ BK588.out hb); replace BK600 := a_ (bB_ BK600.out hb); replace HB := a_ (below_step hC_ hb); clear hb ho46; obtain ⟨Ao47, co47, eo47⟩ := Kd.R_slice HO606.out; subst eo47; obtain ⟨Ao48, co48, eo48⟩ := Kd.N_slice HO603.out; subst eo48) | ((with_reducible refine gate_dst (N := 7) rfl ?_); refine boxE_ 7 #[.slice none 0 0, .int .i64 0, .slice none 0 0] 25 ?_; intro gb607 hg w49 hbox hb; replace HO570 := a_ (Kd.N_below (Kd.N_elderB (hN_ HO570.out) gb607 (Nat.le_of_eq hg.symm)) hb); replace HO573 := a_ (Kd.N_below (Kd.N_elderB (hN_ HO573.out) gb607 (Nat.le_of_eq hg.symm)) hb); replace HO577 := a_ (Kd.R_below (hR_ HO577.out) hb); replace HO582 := a_ (Kd.N_below (Kd.N_elderB (hN_ HO582.out) gb607 (Nat.le_of_eq hg.symm)) hb); replace HO586 := a_ (Kd.R_below (hR_ HO586.out) hb); replace HO591 := a_ (Kd.N_below (Kd.N_elderB (hN_ HO591.out) gb607 (Nat.le_of_eq hg.symm)) hb); replace HO594 := a_ (Kd.N_below (Kd.N_elderB (hN_ HO594.out) gb607 (Nat.le_of_eq hg.symm)) hb); replace HO598 := a_ (Kd.R_below (hR_ HO598.out) hb); replace HO603 := a_ (Kd.N_below (Kd.N_elderB (hN_ HO603.out) gb607 (Nat.le_of_eq hg.symm)) hb); replace HO606 := a_ (Kd.R_below (hR_ HO606.out) hb); have BK607 := a_ (hbox); have GW607 := a_ ((gE_ hg : w.heap.size ≤ gb607)); have GE607 := a_ ((gE_ hg : w.heap.size ≤ gb607)); replace HB := a_ (below_step hC_ hb); have NB579_607 := a_ ((bL_ BK579.out hg : gb579 ≠ gb607)); have NB607_579 := a_ ((bG_ BK579.out hg : gb607 ≠ gb579)); replace BK579 := a_ (bB_ BK579.out hb); have NB588_607 := a_ ((bL_ BK588.out hg : gb588 ≠ gb607)); have NB607_588 := a_ ((bG_ BK588.out hg : gb607 ≠ gb588)); replace BK588 := a_ (bB_ BK588.out hb); have NB600_607 := a_ ((bL_ BK600.out hg : gb600 ≠ gb607)); have NB607_600 := a_ ((bG_ BK600.out hg : gb607 ≠ gb600)); replace BK600 := a_ (bB_ BK600.out hb); clear hb hbox hg; have hnb50 := NB607_579.out; have hnc50 := NB579_607.out; have hnb51 := NB607_588.out; have hnc51 := NB588_607.out; have hnb52 := NB607_600.out; have hnc52 := NB600_607.out; obtain ⟨hcz53_0, hcz53_1, hcz53_2, hfz53_0, hfz53_1, hfz53_2⟩ := bx3_ BK607.out) | ((with_reducible refine gate_callee (f := 40) rfl ?_); refine goesL_ (some 28) rfl rfl Tryz.func40 (by kernel_rfl) rfl #[] rfl hL_ ?_; (with_reducible refine (sleuthlaw21_some.calls  t608 _ A7.out).mono ?_); rintro e w54 ⟨v609, rfl, ho0, hb⟩; refine ⟨_, rfl, ?_⟩; have HO610 := a_ (Kd.N_lower (Kd.N_mono (ok' := fun k_ => some k_ ≠ (.slice Ao23 t568.length co23 : Value).ownBlock ∧ some k_ ≠ (.slice Ao26 t571.length co26 : Value).ownBlock ∧ some k_ ≠ (.slice Ao28 t575.length co28 : Value).ownBlock ∧ some k_ ≠ (.slice Ao31 t580.length co31 : Value).ownBlock ∧ some k_ ≠ (.slice Ao34 t584.length co34 : Value).ownBlock ∧ some k_ ≠ (.slice Ao36 t589.length co36 : Value).ownBlock ∧ some k_ ≠ (.slice Ao39 t592.length co39 : Value).ownBlock ∧ some k_ ≠ (.slice Ao43 t596.length co43 : Value).ownBlock ∧ some k_ ≠ (.slice Ao48 t601.length co48 : Value).ownBlock ∧ some k_ ≠ (.slice Ao47 y604.length co47 : Value).ownBlock ∧ k_ ≠ gb579 ∧ k_ ≠ gb588 ∧ k_ ≠ gb600 ∧ k_ ≠ gb607) ho0 (fun k_ hk_ => ⟨(Kd.fresh' (Kd.N_lt (by (with_reducible repeat (first | apply Kd.N_alloc | apply Kd.N_drewN | apply Kd.N_drew)); exact (Kd.N_mono (nF_ (nF_ (nF_ (Kd.N_mono HO570.out (fun k_ hk => (⟨hk, hk.2⟩ : _ ∧ k_ ≠ gb607)))))) (fun _ h_ => h_.1)))) k_ hk_), (Kd.fresh' (Kd.N_lt (by (with_reducible repeat (first | apply Kd.N_alloc | apply Kd.N_drewN | apply Kd.N_drew)); exact (Kd.N_mono (nF_ (nF_ (nF_ (Kd.N_mono HO573.out (fun k_ hk => (⟨hk, hk.2⟩ : _ ∧ k_ ≠ gb607)))))) (fun _ h_ => h_.1)))) k_ hk_), (Kd.fresh' (Kd.R_lt (by (with_reducible repeat (first | apply Kd.R_alloc | apply Kd.R_drewN | apply Kd.R_drew)); exact (Kd.R_mono (rF_ (rF_ (rF_ (Kd.R_types HO577.out BK607.out (by decide))))) (fun _ h_ => h_.1)))) k_ hk_), (Kd.fresh' (Kd.N_lt (by (with_reducible repeat (first | apply Kd.N_alloc | apply Kd.N_drewN | apply Kd.N_drew)); exact (Kd.N_mono (nF_ (nF_ (nF_ (Kd.N_mono HO582.out (fun k_ hk => (⟨hk, hk.2⟩ : _ ∧ k_ ≠ gb607)))))) (fun _ h_ => h_.1)))) k_ hk_), (Kd.fresh' (Kd.R_lt (by (with_reducible repeat (first | apply Kd.R_alloc | apply Kd.R_drewN | apply Kd.R_drew)); exact (Kd.R_mono (rF_ (rF_ (rF_ (Kd.R_types HO586.out BK607.out (by decide))))) (fun _ h_ => h_.1)))) k_ hk_), (Kd.fresh' (Kd.N_lt (by (with_reducible repeat (first | apply Kd.N_alloc | apply Kd.N_drewN | apply Kd.N_drew)); exact (Kd.N_mono (nF_ (nF_ (nF_ (Kd.N_mono HO591.out (fun k_ hk => (⟨hk, hk.2⟩ : _ ∧ k_ ≠ gb607)))))) (fun _ h_ => h_.1)))) k_ hk_), (Kd.fresh' (Kd.N_lt (by (with_reducible repeat (first | apply Kd.N_alloc | apply Kd.N_drewN | apply Kd.N_drew)); exact (Kd.N_mono (nF_ (nF_ (nF_ (Kd.N_mono HO594.out (fun k_ hk => (⟨hk, hk.2⟩ : _ ∧ k_ ≠ gb607)))))) (fun _ h_ => h_.1)))) k_ hk_), (Kd.fresh' (Kd.R_lt (by (with_reducible repeat (first | apply Kd.R_alloc | apply Kd.R_drewN | apply Kd.R_drew)); exact (Kd.R_mono (rF_ (rF_ (rF_ (Kd.R_types HO598.out BK607.out (by decide))))) (fun _ h_ => h_.1)))) k_ hk_), (Kd.fresh' (Kd.N_lt (by (with_reducible repeat (first | apply Kd.N_alloc | apply Kd.N_drewN | apply Kd.N_drew)); exact (Kd.N_mono (nF_ (nF_ (nF_ (Kd.N_mono HO603.out (fun k_ hk => (⟨hk, hk.2⟩ : _ ∧ k_ ≠ gb607)))))) (fun _ h_ => h_.1)))) k_ hk_), (Kd.fresh' (Kd.R_lt (by (with_reducible repeat (first | apply Kd.R_alloc | apply Kd.R_drewN | apply Kd.R_drew)); exact (Kd.R_mono (rF_ (rF_ (rF_ (Kd.R_types HO606.out BK607.out (by decide))))) (fun _ h_ => h_.1)))) k_ hk_), (Kd.freshB (g := gb579) (o := .cells #[.slice Ao26 t571.length co26, .int .i64 t574, .slice Ao28 t575.length co28] 25 (0, 0)) (bF_ (bF_ (bF_ (hK_ BK579.out) NB579_607.out) NB579_607.out) NB579_607.out) k_ hk_), (Kd.freshB (g := gb588) (o := .cells #[.slice Ao31 t580.length co31, .int .i64 t583, .slice Ao34 t584.length co34] 25 (0, 0)) (bF_ (bF_ (bF_ (hK_ BK588.out) NB588_607.out) NB588_607.out) NB588_607.out) k_ hk_), (Kd.freshB (g := gb600) (o := .cells #[.slice Ao39 t592.length co39, .int .i64 t595, .slice Ao43 t596.length co43] 25 (0, 0)) (bF_ (bF_ (bF_ (hK_ BK600.out) NB600_607.out) NB600_607.out) NB600_607.out) k_ hk_), (Kd.freshB (g := gb607) (o := .cells #[.slice Ao48 t601.length co48, .int .i64 0, .slice Ao47 y604.length co47] 25 (0, 0)) (bP_ (bP_ (bP_ (hK_ BK607.out)))) k_ hk_)⟩)) (below_size hC_)); replace HO570 := a_ (Kd.N_elder' (by (with_reducible repeat (first | apply Kd.N_alloc | apply Kd.N_drewN | apply Kd.N_drew)); exact (Kd.N_mono (nF_ (nF_ (nF_ (Kd.N_mono HO570.out (fun k_ hk => (⟨hk, hk.2⟩ : _ ∧ k_ ≠ gb607)))))) (fun _ h_ => h_.1))) (Kd.N_base ho0) hb); replace HO573 := a_ (Kd.N_elder' (by (with_reducible repeat (first | apply Kd.N_alloc | apply Kd.N_drewN | apply Kd.N_drew)); exact (Kd.N_mono (nF_ (nF_ (nF_ (Kd.N_mono HO573.out (fun k_ hk => (⟨hk, hk.2⟩ : _ ∧ k_ ≠ gb607)))))) (fun _ h_ => h_.1))) (Kd.N_base ho0) hb); replace HO577 := a_ (Kd.R_below (by (with_reducible repeat (first | apply Kd.R_alloc | apply Kd.R_drewN | apply Kd.R_drew)); exact (Kd.R_mono (rF_ (rF_ (rF_ (Kd.R_types HO577.out BK607.out (by decide))))) (fun _ h_ => h_.1))) hb); replace HO582 := a_ (Kd.N_elder' (by (with_reducible repeat (first | apply Kd.N_alloc | apply Kd.N_drewN | apply Kd.N_drew)); exact (Kd.N_mono (nF_ (nF_ (nF_ (Kd.N_mono HO582.out (fun k_ hk => (⟨hk, hk.2⟩ : _ ∧ k_ ≠ gb607)))))) (fun _ h_ => h_.1))) (Kd.N_base ho0) hb); replace HO586 := a_ (Kd.R_below (by (with_reducible repeat (first | apply Kd.R_alloc | apply Kd.R_drewN | apply Kd.R_drew)); exact (Kd.R_mono (rF_ (rF_ (rF_ (Kd.R_types HO586.out BK607.out (by decide))))) (fun _ h_ => h_.1))) hb); replace HO591 := a_ (Kd.N_elder' (by (with_reducible repeat (first | apply Kd.N_alloc | apply Kd.N_drewN | apply Kd.N_drew)); exact (Kd.N_mono (nF_ (nF_ (nF_ (Kd.N_mono HO591.out (fun k_ hk => (⟨hk, hk.2⟩ : _ ∧ k_ ≠ gb607)))))) (fun _ h_ => h_.1))) (Kd.N_base ho0) hb); replace HO594 := a_ (Kd.N_elder' (by (with_reducible repeat (first | apply Kd.N_alloc | apply Kd.N_drewN | apply Kd.N_drew)); exact (Kd.N_mono (nF_ (nF_ (nF_ (Kd.N_mono HO594.out (fun k_ hk => (⟨hk, hk.2⟩ : _ ∧ k_ ≠ gb607)))))) (fun _ h_ => h_.1))) (Kd.N_base ho0) hb); replace HO598 := a_ (Kd.R_below (by (with_reducible repeat (first | apply Kd.R_alloc | apply Kd.R_drewN | apply Kd.R_drew)); exact (Kd.R_mono (rF_ (rF_ (rF_ (Kd.R_types HO598.out BK607.out (by decide))))) (fun _ h_ => h_.1))) hb); replace HO603 := a_ (Kd.N_elder' (by (with_reducible repeat (first | apply Kd.N_alloc | apply Kd.N_drewN | apply Kd.N_drew)); exact (Kd.N_mono (nF_ (nF_ (nF_ (Kd.N_mono HO603.out (fun k_ hk => (⟨hk, hk.2⟩ : _ ∧ k_ ≠ gb607)))))) (fun _ h_ => h_.1))) (Kd.N_base ho0) hb); replace HO606 := a_ (Kd.R_below (by (with_reducible repeat (first | apply Kd.R_alloc | apply Kd.R_drewN | apply Kd.R_drew)); exact (Kd.R_mono (rF_ (rF_ (rF_ (Kd.R_types HO606.out BK607.out (by decide))))) (fun _ h_ => h_.1))) hb); replace BK579 := a_ (blk_below (g := gb579) (o := .cells #[.slice Ao26 t571.length co26, .int .i64 t574, .slice Ao28 t575.length co28] 25 (0, 0)) (bF_ (bF_ (bF_ (hK_ BK579.out) NB579_607.out) NB579_607.out) NB579_607.out) hb); replace BK588 := a_ (blk_below (g := gb588) (o := .cells #[.slice Ao31 t580.length co31, .int .i64 t583, .slice Ao34 t584.length co34] 25 (0, 0)) (bF_ (bF_ (bF_ (hK_ BK588.out) NB588_607.out) NB588_607.out) NB588_607.out) hb); replace BK600 := a_ (blk_below (g := gb600) (o := .cells #[.slice Ao39 t592.length co39, .int .i64 t595, .slice Ao43 t596.length co43] 25 (0, 0)) (bF_ (bF_ (bF_ (hK_ BK600.out) NB600_607.out) NB600_607.out) NB600_607.out) hb); replace BK607 := a_ (blk_below (g := gb607) (o := .cells #[.slice Ao48 t601.length co48, .int .i64 0, .slice Ao47 y604.length co47] 25 (0, 0)) (bP_ (bP_ (bP_ (hK_ BK607.out)))) hb); replace HB := a_ (below_step hC_ hb); (try clear hb); (try clear hb2); (try clear hk); (try clear hi); (try clear ho0)) | ((with_reducible refine gate_dst (N := 31) rfl ?_); refine Kd.R_lit k46 _ 46 ?hg (N := 31) ?hd (xs := ([(⟨0, 2⟩ : S46), (⟨2, 1⟩ : S46)] : List (S46))) (inner := [.int .i64 0, .int .i64 2, .int .i64 2, .int .i64 1]) (ok := fun _ => True) (okp := fun _ => True) ?hr ?hp (fun _ hk => hk) trivial (Below.refl _ _) (Nat.le_refl _) (by simp) ?_; (case hd => rfl); (case hg => rfl); (case hr => first | (go_simp; done) | (go_simp; rfl)); (case hp => exact (Reps.c2 (show Kd.M k46 _ _ _ (⟨0, 2⟩ : S46) [.int .i64 0, .int .i64 2] from (k46_mkM _ _ _ (⟨0, 2⟩ : S46) )) (Reps.c2 (show Kd.M k46 _ _ _ (⟨2, 1⟩ : S46) [.int .i64 2, .int .i64 1] from (k46_mkM _ _ _ (⟨2, 1⟩ : S46) )) (Reps.none _ _)))); intro v612 w55 ho56 hb hg_ hnew_; clear hg_ hnew_; (first | rw [← Ny611.out] at ho56 | (simp only [Int.reduceToNat] at ho56; rw [← Ny611.out] at ho56)); replace HO570 := a_ (Kd.N_elder' (hN_ HO570.out) (Kd.R_base ho56) hb); replace HO573 := a_ (Kd.N_elder' (hN_ HO573.out) (Kd.R_base ho56) hb); replace HO582 := a_ (Kd.N_elder' (hN_ HO582.out) (Kd.R_base ho56) hb); replace HO591 := a_ (Kd.N_elder' (hN_ HO591.out) (Kd.R_base ho56) hb); replace HO594 := a_ (Kd.N_elder' (hN_ HO594.out) (Kd.R_base ho56) hb); replace HO603 := a_ (Kd.N_elder' (hN_ HO603.out) (Kd.R_base ho56) hb); replace HO610 := a_ (Kd.N_elder' (hN_ HO610.out) (Kd.R_base ho56) hb); have HO613 := a_ (Kd.R_lower (Kd.R_new' (Kd.R_new' (Kd.R_new' (Kd.R_new' ho56 (Kd.R_lt (hR_ HO577.out))) (Kd.R_lt (hR_ HO586.out))) (Kd.R_lt (hR_ HO598.out))) (Kd.R_lt (hR_ HO606.out))) (below_size hC_)); replace HO577 := a_ (Kd.R_elder' (hR_ HO577.out) (Kd.R_base ho56) hb); replace HO586 := a_ (Kd.R_elder' (hR_ HO586.out) (Kd.R_base ho56) hb); replace HO598 := a_ (Kd.R_elder' (hR_ HO598.out) (Kd.R_base ho56) hb); replace HO606 := a_ (Kd.R_elder' (hR_ HO606.out) (Kd.R_base ho56) hb); replace BK579 := a_ (bB_ BK579.out hb); replace BK588 := a_ (bB_ BK588.out hb); replace BK600 := a_ (bB_ BK600.out hb); replace BK607 := a_ (bB_ BK607.out hb); replace HB := a_ (below_step hC_ hb); clear hb ho56; obtain ⟨Ao57, co57, eo57⟩ := Kd.R_slice HO613.out; subst eo57; obtain ⟨Ao58, co58, eo58⟩ := Kd.N_slice HO610.out; subst eo58) | ((with_reducible refine gate_dst (N := 8) rfl ?_); refine boxE_ 8 #[.slice none 0 0, .int .i64 0, .slice none 0 0] 25 ?_; intro gb614 hg w59 hbox hb; replace HO570 := a_ (Kd.N_below (Kd.N_elderB (hN_ HO570.out) gb614 (Nat.le_of_eq hg.symm)) hb); replace HO573 := a_ (Kd.N_below (Kd.N_elderB (hN_ HO573.out) gb614 (Nat.le_of_eq hg.symm)) hb); replace HO577 := a_ (Kd.R_below (hR_ HO577.out) hb); replace HO582 := a_ (Kd.N_below (Kd.N_elderB (hN_ HO582.out) gb614 (Nat.le_of_eq hg.symm)) hb); replace HO586 := a_ (Kd.R_below (hR_ HO586.out) hb); replace HO591 := a_ (Kd.N_below (Kd.N_elderB (hN_ HO591.out) gb614 (Nat.le_of_eq hg.symm)) hb); replace HO594 := a_ (Kd.N_below (Kd.N_elderB (hN_ HO594.out) gb614 (Nat.le_of_eq hg.symm)) hb); replace HO598 := a_ (Kd.R_below (hR_ HO598.out) hb); replace HO603 := a_ (Kd.N_below (Kd.N_elderB (hN_ HO603.out) gb614 (Nat.le_of_eq hg.symm)) hb); replace HO606 := a_ (Kd.R_below (hR_ HO606.out) hb); replace HO610 := a_ (Kd.N_below (Kd.N_elderB (hN_ HO610.out) gb614 (Nat.le_of_eq hg.symm)) hb); replace HO613 := a_ (Kd.R_below (hR_ HO613.out) hb); have BK614 := a_ (hbox); have GW614 := a_ ((gE_ hg : w.heap.size ≤ gb614)); have GE614 := a_ ((gE_ hg : w.heap.size ≤ gb614)); replace HB := a_ (below_step hC_ hb); have NB579_614 := a_ ((bL_ BK579.out hg : gb579 ≠ gb614)); have NB614_579 := a_ ((bG_ BK579.out hg : gb614 ≠ gb579)); replace BK579 := a_ (bB_ BK579.out hb); have NB588_614 := a_ ((bL_ BK588.out hg : gb588 ≠ gb614)); have NB614_588 := a_ ((bG_ BK588.out hg : gb614 ≠ gb588)); replace BK588 := a_ (bB_ BK588.out hb); have NB600_614 := a_ ((bL_ BK600.out hg : gb600 ≠ gb614)); have NB614_600 := a_ ((bG_ BK600.out hg : gb614 ≠ gb600)); replace BK600 := a_ (bB_ BK600.out hb); have NB607_614 := a_ ((bL_ BK607.out hg : gb607 ≠ gb614)); have NB614_607 := a_ ((bG_ BK607.out hg : gb614 ≠ gb607)); replace BK607 := a_ (bB_ BK607.out hb); clear hb hbox hg; have hnb60 := NB614_579.out; have hnc60 := NB579_614.out; have hnb61 := NB614_588.out; have hnc61 := NB588_614.out; have hnb62 := NB614_600.out; have hnc62 := NB600_614.out; have hnb63 := NB614_607.out; have hnc63 := NB607_614.out; obtain ⟨hcz64_0, hcz64_1, hcz64_2, hfz64_0, hfz64_1, hfz64_2⟩ := bx3_ BK614.out))
 have n0_ : Aside0 (Kd.N k64 64 (((w59.setCell ⟨gb614, 0, none⟩ (.slice Ao58 t608.length co58)).setCell ⟨gb614, 1, none⟩ (.int .i64 0)).setCell ⟨gb614, 2, none⟩ (.slice Ao57 y611.length co57)) w.heap.size (fun k_ => some k_ ≠ (.slice Ao26 t571.length co26 : Value).ownBlock ∧ some k_ ≠ (.slice Ao28 t575.length co28 : Value).ownBlock ∧ some k_ ≠ (.slice Ao31 t580.length co31 : Value).ownBlock ∧ some k_ ≠ (.slice Ao34 t584.length co34 : Value).ownBlock ∧ some k_ ≠ (.slice Ao36 t589.length co36 : Value).ownBlock ∧ some k_ ≠ (.slice Ao39 t592.length co39 : Value).ownBlock ∧ some k_ ≠ (.slice Ao43 t596.length co43 : Value).ownBlock ∧ some k_ ≠ (.slice Ao48 t601.length co48 : Value).ownBlock ∧ some k_ ≠ (.slice Ao47 y604.length co47 : Value).ownBlock ∧ some k_ ≠ (.slice Ao58 t608.length co58 : Value).ownBlock ∧ some k_ ≠ (.slice Ao57 y611.length co57 : Value).ownBlock ∧ k_ ≠ gb579 ∧ k_ ≠ gb588 ∧ k_ ≠ gb600 ∧ k_ ≠ gb607 ∧ k_ ≠ gb614) (.slice Ao23 t568.length co23) t568) := ⟨by (with_reducible repeat (first | apply Kd.N_alloc | apply Kd.N_drewN | apply Kd.N_drew)); exact Kd.N_mono (nF_ (nF_ (nF_ (Kd.N_mono HO570.out (fun k_ hk => (⟨hk, hk.2⟩ : _ ∧ k_ ≠ gb614)))))) (fun _ hk => ⟨hk.1.1.1.1.1.1.1.1.1.1.1.1.1.1.1.1.2, ⟨hk.1.1.1.1.1.1.1.1.1.1.1.1.1.1.1.2, ⟨hk.1.1.1.1.1.1.1.1.1.1.1.1.1.2, ⟨hk.1.1.1.1.1.1.1.1.1.1.1.1.2, ⟨hk.1.1.1.1.1.1.1.1.1.1.2, ⟨hk.1.1.1.1.1.1.1.1.1.2, ⟨hk.1.1.1.1.1.1.1.1.2, ⟨hk.1.1.1.1.1.1.2, ⟨hk.1.1.1.1.1.2, ⟨hk.1.1.1.2, ⟨hk.1.1.2, ⟨hk.1.1.1.1.1.1.1.1.1.1.1.1.1.1.2, ⟨hk.1.1.1.1.1.1.1.1.1.1.1.2, ⟨hk.1.1.1.1.1.1.1.2, ⟨hk.1.1.1.1.2, hk.1.2⟩⟩⟩⟩⟩⟩⟩⟩⟩⟩⟩⟩⟩⟩⟩)⟩
 have n1_ : Aside0 (Kd.N k64 64 (((w59.setCell ⟨gb614, 0, none⟩ (.slice Ao58 t608.length co58)).setCell ⟨gb614, 1, none⟩ (.int .i64 0)).setCell ⟨gb614, 2, none⟩ (.slice Ao57 y611.length co57)) w.heap.size (fun k_ => some k_ ≠ (.slice Ao23 t568.length co23 : Value).ownBlock ∧ some k_ ≠ (.slice Ao28 t575.length co28 : Value).ownBlock ∧ some k_ ≠ (.slice Ao31 t580.length co31 : Value).ownBlock ∧ some k_ ≠ (.slice Ao34 t584.length co34 : Value).ownBlock ∧ some k_ ≠ (.slice Ao36 t589.length co36 : Value).ownBlock ∧ some k_ ≠ (.slice Ao39 t592.length co39 : Value).ownBlock ∧ some k_ ≠ (.slice Ao43 t596.length co43 : Value).ownBlock ∧ some k_ ≠ (.slice Ao48 t601.length co48 : Value).ownBlock ∧ some k_ ≠ (.slice Ao47 y604.length co47 : Value).ownBlock ∧ some k_ ≠ (.slice Ao58 t608.length co58 : Value).ownBlock ∧ some k_ ≠ (.slice Ao57 y611.length co57 : Value).ownBlock ∧ k_ ≠ gb579 ∧ k_ ≠ gb588 ∧ k_ ≠ gb600 ∧ k_ ≠ gb607 ∧ k_ ≠ gb614) (.slice Ao26 t571.length co26) t571) := ⟨by (with_reducible repeat (first | apply Kd.N_alloc | apply Kd.N_drewN | apply Kd.N_drew)); exact Kd.N_mono (nF_ (nF_ (nF_ (Kd.N_mono HO573.out (fun k_ hk => (⟨hk, hk.2⟩ : _ ∧ k_ ≠ gb614)))))) (fun _ hk => ⟨hk.1.1.1.1.1.1.1.1.1.1.1.1.1.1.1.2, ⟨hk.1.1.1.1.1.1.1.1.1.1.1.1.1.1.1.1, ⟨hk.1.1.1.1.1.1.1.1.1.1.1.1.1.2, ⟨hk.1.1.1.1.1.1.1.1.1.1.1.1.2, ⟨hk.1.1.1.1.1.1.1.1.1.1.2, ⟨hk.1.1.1.1.1.1.1.1.1.2, ⟨hk.1.1.1.1.1.1.1.1.2, ⟨hk.1.1.1.1.1.1.2, ⟨hk.1.1.1.1.1.2, ⟨hk.1.1.1.2, ⟨hk.1.1.2, ⟨hk.1.1.1.1.1.1.1.1.1.1.1.1.1.1.2, ⟨hk.1.1.1.1.1.1.1.1.1.1.1.2, ⟨hk.1.1.1.1.1.1.1.2, ⟨hk.1.1.1.1.2, hk.1.2⟩⟩⟩⟩⟩⟩⟩⟩⟩⟩⟩⟩⟩⟩⟩)⟩
 have n2_ : Aside0 (Kd.R k46 46 (((w59.setCell ⟨gb614, 0, none⟩ (.slice Ao58 t608.length co58)).setCell ⟨gb614, 1, none⟩ (.int .i64 0)).setCell ⟨gb614, 2, none⟩ (.slice Ao57 y611.length co57)) w.heap.size (fun k_ => some k_ ≠ (.slice Ao34 t584.length co34 : Value).ownBlock ∧ some k_ ≠ (.slice Ao43 t596.length co43 : Value).ownBlock ∧ some k_ ≠ (.slice Ao47 y604.length co47 : Value).ownBlock ∧ some k_ ≠ (.slice Ao57 y611.length co57 : Value).ownBlock) (.slice Ao28 t575.length co28) t575) := ⟨by (with_reducible repeat (first | apply Kd.R_alloc | apply Kd.R_drewN | apply Kd.R_drew)); exact Kd.R_mono (rF_ (rF_ (rF_ (Kd.R_types HO577.out BK614.out (by decide))))) (fun _ hk => ⟨hk.1.1.1.1.2, ⟨hk.1.1.1.2, ⟨hk.1.1.2, hk.1.2⟩⟩⟩)⟩
 have n3_ : Aside0 (Kd.N k64 64 (((w59.setCell ⟨gb614, 0, none⟩ (.slice Ao58 t608.length co58)).setCell ⟨gb614, 1, none⟩ (.int .i64 0)).setCell ⟨gb614, 2, none⟩ (.slice Ao57 y611.length co57)) w.heap.size (fun k_ => some k_ ≠ (.slice Ao23 t568.length co23 : Value).ownBlock ∧ some k_ ≠ (.slice Ao26 t571.length co26 : Value).ownBlock ∧ some k_ ≠ (.slice Ao28 t575.length co28 : Value).ownBlock ∧ some k_ ≠ (.slice Ao34 t584.length co34 : Value).ownBlock ∧ some k_ ≠ (.slice Ao36 t589.length co36 : Value).ownBlock ∧ some k_ ≠ (.slice Ao39 t592.length co39 : Value).ownBlock ∧ some k_ ≠ (.slice Ao43 t596.length co43 : Value).ownBlock ∧ some k_ ≠ (.slice Ao48 t601.length co48 : Value).ownBlock ∧ some k_ ≠ (.slice Ao47 y604.length co47 : Value).ownBlock ∧ some k_ ≠ (.slice Ao58 t608.length co58 : Value).ownBlock ∧ some k_ ≠ (.slice Ao57 y611.length co57 : Value).ownBlock ∧ k_ ≠ gb579 ∧ k_ ≠ gb588 ∧ k_ ≠ gb600 ∧ k_ ≠ gb607 ∧ k_ ≠ gb614) (.slice Ao31 t580.length co31) t580) := ⟨by (with_reducible repeat (first | apply Kd.N_alloc | apply Kd.N_drewN | apply Kd.N_drew)); exact Kd.N_mono (nF_ (nF_ (nF_ (Kd.N_mono HO582.out (fun k_ hk => (⟨hk, hk.2⟩ : _ ∧ k_ ≠ gb614)))))) (fun _ hk => ⟨hk.1.1.1.1.1.1.1.1.1.1.1.1.2.1, ⟨hk.1.1.1.1.1.1.1.1.1.1.1.1.2.2.1, ⟨hk.1.1.1.1.1.1.1.1.1.1.1.1.2.2.2.1, ⟨hk.1.1.1.1.1.1.1.1.1.1.1.1.1, ⟨hk.1.1.1.1.1.1.1.1.1.1.2, ⟨hk.1.1.1.1.1.1.1.1.1.2, ⟨hk.1.1.1.1.1.1.1.1.2, ⟨hk.1.1.1.1.1.1.2, ⟨hk.1.1.1.1.1.2, ⟨hk.1.1.1.2, ⟨hk.1.1.2, ⟨hk.1.1.1.1.1.1.1.1.1.1.1.1.2.2.2.2, ⟨hk.1.1.1.1.1.1.1.1.1.1.1.2, ⟨hk.1.1.1.1.1.1.1.2, ⟨hk.1.1.1.1.2, hk.1.2⟩⟩⟩⟩⟩⟩⟩⟩⟩⟩⟩⟩⟩⟩⟩)⟩
 have n4_ : Aside0 (Kd.R k46 46 (((w59.setCell ⟨gb614, 0, none⟩ (.slice Ao58 t608.length co58)).setCell ⟨gb614, 1, none⟩ (.int .i64 0)).setCell ⟨gb614, 2, none⟩ (.slice Ao57 y611.length co57)) w.heap.size (fun k_ => some k_ ≠ (.slice Ao28 t575.length co28 : Value).ownBlock ∧ some k_ ≠ (.slice Ao43 t596.length co43 : Value).ownBlock ∧ some k_ ≠ (.slice Ao47 y604.length co47 : Value).ownBlock ∧ some k_ ≠ (.slice Ao57 y611.length co57 : Value).ownBlock) (.slice Ao34 t584.length co34) t584) := ⟨by (with_reducible repeat (first | apply Kd.R_alloc | apply Kd.R_drewN | apply Kd.R_drew)); exact Kd.R_mono (rF_ (rF_ (rF_ (Kd.R_types HO586.out BK614.out (by decide))))) (fun _ hk => ⟨hk.1.1.1.1.2, ⟨hk.1.1.1.2, ⟨hk.1.1.2, hk.1.2⟩⟩⟩)⟩
 have n5_ : Aside0 (Kd.N k64 64 (((w59.setCell ⟨gb614, 0, none⟩ (.slice Ao58 t608.length co58)).setCell ⟨gb614, 1, none⟩ (.int .i64 0)).setCell ⟨gb614, 2, none⟩ (.slice Ao57 y611.length co57)) w.heap.size (fun k_ => some k_ ≠ (.slice Ao23 t568.length co23 : Value).ownBlock ∧ some k_ ≠ (.slice Ao26 t571.length co26 : Value).ownBlock ∧ some k_ ≠ (.slice Ao28 t575.length co28 : Value).ownBlock ∧ some k_ ≠ (.slice Ao31 t580.length co31 : Value).ownBlock ∧ some k_ ≠ (.slice Ao34 t584.length co34 : Value).ownBlock ∧ some k_ ≠ (.slice Ao39 t592.length co39 : Value).ownBlock ∧ some k_ ≠ (.slice Ao43 t596.length co43 : Value).ownBlock ∧ some k_ ≠ (.slice Ao48 t601.length co48 : Value).ownBlock ∧ some k_ ≠ (.slice Ao47 y604.length co47 : Value).ownBlock ∧ some k_ ≠ (.slice Ao58 t608.length co58 : Value).ownBlock ∧ some k_ ≠ (.slice Ao57 y611.length co57 : Value).ownBlock ∧ k_ ≠ gb579 ∧ k_ ≠ gb588 ∧ k_ ≠ gb600 ∧ k_ ≠ gb607 ∧ k_ ≠ gb614) (.slice Ao36 t589.length co36) t589) := ⟨by (with_reducible repeat (first | apply Kd.N_alloc | apply Kd.N_drewN | apply Kd.N_drew)); exact Kd.N_mono (nF_ (nF_ (nF_ (Kd.N_mono HO591.out (fun k_ hk => (⟨hk, hk.2⟩ : _ ∧ k_ ≠ gb614)))))) (fun _ hk => ⟨hk.1.1.1.1.1.1.1.1.1.1.1, ⟨hk.1.1.1.1.1.1.1.1.1.1.2.1, ⟨hk.1.1.1.1.1.1.1.1.1.1.2.2.1, ⟨hk.1.1.1.1.1.1.1.1.1.1.2.2.2.1, ⟨hk.1.1.1.1.1.1.1.1.1.1.2.2.2.2.1, ⟨hk.1.1.1.1.1.1.1.1.1.2, ⟨hk.1.1.1.1.1.1.1.1.2, ⟨hk.1.1.1.1.1.1.2, ⟨hk.1.1.1.1.1.2, ⟨hk.1.1.1.2, ⟨hk.1.1.2, ⟨hk.1.1.1.1.1.1.1.1.1.1.2.2.2.2.2.1, ⟨hk.1.1.1.1.1.1.1.1.1.1.2.2.2.2.2.2, ⟨hk.1.1.1.1.1.1.1.2, ⟨hk.1.1.1.1.2, hk.1.2⟩⟩⟩⟩⟩⟩⟩⟩⟩⟩⟩⟩⟩⟩⟩)⟩
 have n6_ : Aside0 (Kd.N k64 64 (((w59.setCell ⟨gb614, 0, none⟩ (.slice Ao58 t608.length co58)).setCell ⟨gb614, 1, none⟩ (.int .i64 0)).setCell ⟨gb614, 2, none⟩ (.slice Ao57 y611.length co57)) w.heap.size (fun k_ => some k_ ≠ (.slice Ao23 t568.length co23 : Value).ownBlock ∧ some k_ ≠ (.slice Ao26 t571.length co26 : Value).ownBlock ∧ some k_ ≠ (.slice Ao28 t575.length co28 : Value).ownBlock ∧ some k_ ≠ (.slice Ao31 t580.length co31 : Value).ownBlock ∧ some k_ ≠ (.slice Ao34 t584.length co34 : Value).ownBlock ∧ some k_ ≠ (.slice Ao36 t589.length co36 : Value).ownBlock ∧ some k_ ≠ (.slice Ao43 t596.length co43 : Value).ownBlock ∧ some k_ ≠ (.slice Ao48 t601.length co48 : Value).ownBlock ∧ some k_ ≠ (.slice Ao47 y604.length co47 : Value).ownBlock ∧ some k_ ≠ (.slice Ao58 t608.length co58 : Value).ownBlock ∧ some k_ ≠ (.slice Ao57 y611.length co57 : Value).ownBlock ∧ k_ ≠ gb579 ∧ k_ ≠ gb588 ∧ k_ ≠ gb600 ∧ k_ ≠ gb607 ∧ k_ ≠ gb614) (.slice Ao39 t592.length co39) t592) := ⟨by (with_reducible repeat (first | apply Kd.N_alloc | apply Kd.N_drewN | apply Kd.N_drew)); exact Kd.N_mono (nF_ (nF_ (nF_ (Kd.N_mono HO594.out (fun k_ hk => (⟨hk, hk.2⟩ : _ ∧ k_ ≠ gb614)))))) (fun _ hk => ⟨hk.1.1.1.1.1.1.1.1.2.1, ⟨hk.1.1.1.1.1.1.1.1.2.2.1, ⟨hk.1.1.1.1.1.1.1.1.2.2.2.1, ⟨hk.1.1.1.1.1.1.1.1.2.2.2.2.1, ⟨hk.1.1.1.1.1.1.1.1.2.2.2.2.2.1, ⟨hk.1.1.1.1.1.1.1.1.2.2.2.2.2.2.1, ⟨hk.1.1.1.1.1.1.1.1.1, ⟨hk.1.1.1.1.1.1.2, ⟨hk.1.1.1.1.1.2, ⟨hk.1.1.1.2, ⟨hk.1.1.2, ⟨hk.1.1.1.1.1.1.1.1.2.2.2.2.2.2.2.1, ⟨hk.1.1.1.1.1.1.1.1.2.2.2.2.2.2.2.2, ⟨hk.1.1.1.1.1.1.1.2, ⟨hk.1.1.1.1.2, hk.1.2⟩⟩⟩⟩⟩⟩⟩⟩⟩⟩⟩⟩⟩⟩⟩)⟩
 have n7_ : Aside0 (Kd.R k46 46 (((w59.setCell ⟨gb614, 0, none⟩ (.slice Ao58 t608.length co58)).setCell ⟨gb614, 1, none⟩ (.int .i64 0)).setCell ⟨gb614, 2, none⟩ (.slice Ao57 y611.length co57)) w.heap.size (fun k_ => some k_ ≠ (.slice Ao28 t575.length co28 : Value).ownBlock ∧ some k_ ≠ (.slice Ao34 t584.length co34 : Value).ownBlock ∧ some k_ ≠ (.slice Ao47 y604.length co47 : Value).ownBlock ∧ some k_ ≠ (.slice Ao57 y611.length co57 : Value).ownBlock) (.slice Ao43 t596.length co43) t596) := ⟨by (with_reducible repeat (first | apply Kd.R_alloc | apply Kd.R_drewN | apply Kd.R_drew)); exact Kd.R_mono (rF_ (rF_ (rF_ (Kd.R_types HO598.out BK614.out (by decide))))) (fun _ hk => ⟨hk.1.1.1.1.2, ⟨hk.1.1.1.2, ⟨hk.1.1.2, hk.1.2⟩⟩⟩)⟩
 have n8_ : Aside0 (Kd.N k64 64 (((w59.setCell ⟨gb614, 0, none⟩ (.slice Ao58 t608.length co58)).setCell ⟨gb614, 1, none⟩ (.int .i64 0)).setCell ⟨gb614, 2, none⟩ (.slice Ao57 y611.length co57)) w.heap.size (fun k_ => some k_ ≠ (.slice Ao23 t568.length co23 : Value).ownBlock ∧ some k_ ≠ (.slice Ao26 t571.length co26 : Value).ownBlock ∧ some k_ ≠ (.slice Ao28 t575.length co28 : Value).ownBlock ∧ some k_ ≠ (.slice Ao31 t580.length co31 : Value).ownBlock ∧ some k_ ≠ (.slice Ao34 t584.length co34 : Value).ownBlock ∧ some k_ ≠ (.slice Ao36 t589.length co36 : Value).ownBlock ∧ some k_ ≠ (.slice Ao39 t592.length co39 : Value).ownBlock ∧ some k_ ≠ (.slice Ao43 t596.length co43 : Value).ownBlock ∧ some k_ ≠ (.slice Ao47 y604.length co47 : Value).ownBlock ∧ some k_ ≠ (.slice Ao58 t608.length co58 : Value).ownBlock ∧ some k_ ≠ (.slice Ao57 y611.length co57 : Value).ownBlock ∧ k_ ≠ gb579 ∧ k_ ≠ gb588 ∧ k_ ≠ gb600 ∧ k_ ≠ gb607 ∧ k_ ≠ gb614) (.slice Ao48 t601.length co48) t601) := ⟨by (with_reducible repeat (first | apply Kd.N_alloc | apply Kd.N_drewN | apply Kd.N_drew)); exact Kd.N_mono (nF_ (nF_ (nF_ (Kd.N_mono HO603.out (fun k_ hk => (⟨hk, hk.2⟩ : _ ∧ k_ ≠ gb614)))))) (fun _ hk => ⟨hk.1.1.1.1.1.1.1, ⟨hk.1.1.1.1.1.1.2.1, ⟨hk.1.1.1.1.1.1.2.2.1, ⟨hk.1.1.1.1.1.1.2.2.2.1, ⟨hk.1.1.1.1.1.1.2.2.2.2.1, ⟨hk.1.1.1.1.1.1.2.2.2.2.2.1, ⟨hk.1.1.1.1.1.1.2.2.2.2.2.2.1, ⟨hk.1.1.1.1.1.1.2.2.2.2.2.2.2.1, ⟨hk.1.1.1.1.1.2, ⟨hk.1.1.1.2, ⟨hk.1.1.2, ⟨hk.1.1.1.1.1.1.2.2.2.2.2.2.2.2.1, ⟨hk.1.1.1.1.1.1.2.2.2.2.2.2.2.2.2.1, ⟨hk.1.1.1.1.1.1.2.2.2.2.2.2.2.2.2.2, ⟨hk.1.1.1.1.2, hk.1.2⟩⟩⟩⟩⟩⟩⟩⟩⟩⟩⟩⟩⟩⟩⟩)⟩
 have n9_ : Aside0 (Kd.R k46 46 (((w59.setCell ⟨gb614, 0, none⟩ (.slice Ao58 t608.length co58)).setCell ⟨gb614, 1, none⟩ (.int .i64 0)).setCell ⟨gb614, 2, none⟩ (.slice Ao57 y611.length co57)) w.heap.size (fun k_ => some k_ ≠ (.slice Ao28 t575.length co28 : Value).ownBlock ∧ some k_ ≠ (.slice Ao34 t584.length co34 : Value).ownBlock ∧ some k_ ≠ (.slice Ao43 t596.length co43 : Value).ownBlock ∧ some k_ ≠ (.slice Ao57 y611.length co57 : Value).ownBlock) (.slice Ao47 y604.length co47) y604) := ⟨by (with_reducible repeat (first | apply Kd.R_alloc | apply Kd.R_drewN | apply Kd.R_drew)); exact Kd.R_mono (rF_ (rF_ (rF_ (Kd.R_types HO606.out BK614.out (by decide))))) (fun _ hk => ⟨hk.1.1.1.1.2, ⟨hk.1.1.1.2, ⟨hk.1.1.2, hk.1.2⟩⟩⟩)⟩
 have n10_ : Aside0 (Kd.N k64 64 (((w59.setCell ⟨gb614, 0, none⟩ (.slice Ao58 t608.length co58)).setCell ⟨gb614, 1, none⟩ (.int .i64 0)).setCell ⟨gb614, 2, none⟩ (.slice Ao57 y611.length co57)) w.heap.size (fun k_ => some k_ ≠ (.slice Ao23 t568.length co23 : Value).ownBlock ∧ some k_ ≠ (.slice Ao26 t571.length co26 : Value).ownBlock ∧ some k_ ≠ (.slice Ao28 t575.length co28 : Value).ownBlock ∧ some k_ ≠ (.slice Ao31 t580.length co31 : Value).ownBlock ∧ some k_ ≠ (.slice Ao34 t584.length co34 : Value).ownBlock ∧ some k_ ≠ (.slice Ao36 t589.length co36 : Value).ownBlock ∧ some k_ ≠ (.slice Ao39 t592.length co39 : Value).ownBlock ∧ some k_ ≠ (.slice Ao43 t596.length co43 : Value).ownBlock ∧ some k_ ≠ (.slice Ao48 t601.length co48 : Value).ownBlock ∧ some k_ ≠ (.slice Ao47 y604.length co47 : Value).ownBlock ∧ some k_ ≠ (.slice Ao57 y611.length co57 : Value).ownBlock ∧ k_ ≠ gb579 ∧ k_ ≠ gb588 ∧ k_ ≠ gb600 ∧ k_ ≠ gb607 ∧ k_ ≠ gb614) (.slice Ao58 t608.length co58) t608) := ⟨by (with_reducible repeat (first | apply Kd.N_alloc | apply Kd.N_drewN | apply Kd.N_drew)); exact Kd.N_mono (nF_ (nF_ (nF_ (Kd.N_mono HO610.out (fun k_ hk => (⟨hk, hk.2⟩ : _ ∧ k_ ≠ gb614)))))) (fun _ hk => ⟨hk.1.1.1.1, ⟨hk.1.1.1.2.1, ⟨hk.1.1.1.2.2.1, ⟨hk.1.1.1.2.2.2.1, ⟨hk.1.1.1.2.2.2.2.1, ⟨hk.1.1.1.2.2.2.2.2.1, ⟨hk.1.1.1.2.2.2.2.2.2.1, ⟨hk.1.1.1.2.2.2.2.2.2.2.1, ⟨hk.1.1.1.2.2.2.2.2.2.2.2.1, ⟨hk.1.1.1.2.2.2.2.2.2.2.2.2.1, ⟨hk.1.1.2, ⟨hk.1.1.1.2.2.2.2.2.2.2.2.2.2.1, ⟨hk.1.1.1.2.2.2.2.2.2.2.2.2.2.2.1, ⟨hk.1.1.1.2.2.2.2.2.2.2.2.2.2.2.2.1, ⟨hk.1.1.1.2.2.2.2.2.2.2.2.2.2.2.2.2, hk.1.2⟩⟩⟩⟩⟩⟩⟩⟩⟩⟩⟩⟩⟩⟩⟩)⟩
 have n11_ : Aside0 (Kd.R k46 46 (((w59.setCell ⟨gb614, 0, none⟩ (.slice Ao58 t608.length co58)).setCell ⟨gb614, 1, none⟩ (.int .i64 0)).setCell ⟨gb614, 2, none⟩ (.slice Ao57 y611.length co57)) w.heap.size (fun k_ => some k_ ≠ (.slice Ao28 t575.length co28 : Value).ownBlock ∧ some k_ ≠ (.slice Ao34 t584.length co34 : Value).ownBlock ∧ some k_ ≠ (.slice Ao43 t596.length co43 : Value).ownBlock ∧ some k_ ≠ (.slice Ao47 y604.length co47 : Value).ownBlock) (.slice Ao57 y611.length co57) y611) := ⟨by (with_reducible repeat (first | apply Kd.R_alloc | apply Kd.R_drewN | apply Kd.R_drew)); exact Kd.R_mono (rF_ (rF_ (rF_ (Kd.R_types HO613.out BK614.out (by decide))))) (fun _ hk => ⟨hk.1.1.1.1.2, ⟨hk.1.1.1.2, ⟨hk.1.1.2, hk.1.2⟩⟩⟩)⟩
 have n12_ : Aside0 ((((w59.setCell ⟨gb614, 0, none⟩ (.slice Ao58 t608.length co58)).setCell ⟨gb614, 1, none⟩ (.int .i64 0)).setCell ⟨gb614, 2, none⟩ (.slice Ao57 y611.length co57)).heap[gb579]? = some (.cells #[.slice Ao26 t571.length co26, .int .i64 t574, .slice Ao28 t575.length co28] 25 (0, 0))) := ⟨(bF_ (bF_ (bF_ (hK_ BK579.out) NB579_614.out) NB579_614.out) NB579_614.out)⟩
 have n13_ : Aside0 ((((w59.setCell ⟨gb614, 0, none⟩ (.slice Ao58 t608.length co58)).setCell ⟨gb614, 1, none⟩ (.int .i64 0)).setCell ⟨gb614, 2, none⟩ (.slice Ao57 y611.length co57)).heap[gb588]? = some (.cells #[.slice Ao31 t580.length co31, .int .i64 t583, .slice Ao34 t584.length co34] 25 (0, 0))) := ⟨(bF_ (bF_ (bF_ (hK_ BK588.out) NB588_614.out) NB588_614.out) NB588_614.out)⟩
 have n14_ : Aside0 ((((w59.setCell ⟨gb614, 0, none⟩ (.slice Ao58 t608.length co58)).setCell ⟨gb614, 1, none⟩ (.int .i64 0)).setCell ⟨gb614, 2, none⟩ (.slice Ao57 y611.length co57)).heap[gb600]? = some (.cells #[.slice Ao39 t592.length co39, .int .i64 t595, .slice Ao43 t596.length co43] 25 (0, 0))) := ⟨(bF_ (bF_ (bF_ (hK_ BK600.out) NB600_614.out) NB600_614.out) NB600_614.out)⟩
 have n15_ : Aside0 ((((w59.setCell ⟨gb614, 0, none⟩ (.slice Ao58 t608.length co58)).setCell ⟨gb614, 1, none⟩ (.int .i64 0)).setCell ⟨gb614, 2, none⟩ (.slice Ao57 y611.length co57)).heap[gb607]? = some (.cells #[.slice Ao48 t601.length co48, .int .i64 0, .slice Ao47 y604.length co47] 25 (0, 0))) := ⟨(bF_ (bF_ (bF_ (hK_ BK607.out) NB607_614.out) NB607_614.out) NB607_614.out)⟩
 have n16_ : Aside0 ((((w59.setCell ⟨gb614, 0, none⟩ (.slice Ao58 t608.length co58)).setCell ⟨gb614, 1, none⟩ (.int .i64 0)).setCell ⟨gb614, 2, none⟩ (.slice Ao57 y611.length co57)).heap[gb614]? = some (.cells #[.slice Ao58 t608.length co58, .int .i64 0, .slice Ao57 y611.length co57] 25 (0, 0))) := ⟨(bP_ (bP_ (bP_ (hK_ BK614.out))))⟩
 have n17_ : Aside0 (Below w.heap.size w (((w59.setCell ⟨gb614, 0, none⟩ (.slice Ao58 t608.length co58)).setCell ⟨gb614, 1, none⟩ (.int .i64 0)).setCell ⟨gb614, 2, none⟩ (.slice Ao57 y611.length co57))) := ⟨hC_⟩
 (try clear HO570)
 (try clear HO573)
 (try clear HO577)
 (try clear HO582)
 (try clear HO586)
 (try clear HO591)
 (try clear HO594)
 (try clear HO598)
 (try clear HO603)
 (try clear HO606)
 (try clear HO610)
 (try clear HO613)
 (try clear BK579)
 (try clear BK588)
 (try clear BK600)
 (try clear BK607)
 (try clear BK614)
 (try clear HB)
 generalize (((w59.setCell ⟨gb614, 0, none⟩ (.slice Ao58 t608.length co58)).setCell ⟨gb614, 1, none⟩ (.int .i64 0)).setCell ⟨gb614, 2, none⟩ (.slice Ao57 y611.length co57)) = w65 at n0_ n1_ n2_ n3_ n4_ n5_ n6_ n7_ n8_ n9_ n10_ n11_ n12_ n13_ n14_ n15_ n16_ n17_ ⊢
 have HO570 := n0_
 have HO573 := n1_
 have HO577 := n2_
 have HO582 := n3_
 have HO586 := n4_
 have HO591 := n5_
 have HO594 := n6_
 have HO598 := n7_
 have HO603 := n8_
 have HO606 := n9_
 have HO610 := n10_
 have HO613 := n11_
 have BK579 := n12_
 have BK588 := n13_
 have BK600 := n14_
 have BK607 := n15_
 have BK614 := n16_
 have HB := n17_
 clear n0_ n1_ n2_ n3_ n4_ n5_ n6_ n7_ n8_ n9_ n10_ n11_ n12_ n13_ n14_ n15_ n16_ n17_
 replace HO570 := a_ (Kd.N_drew HO570.out)
 replace HO573 := a_ (Kd.N_drew HO573.out)
 replace HO577 := a_ (Kd.R_drew HO577.out)
 replace HO582 := a_ (Kd.N_drew HO582.out)
 replace HO586 := a_ (Kd.R_drew HO586.out)
 replace HO591 := a_ (Kd.N_drew HO591.out)
 replace HO594 := a_ (Kd.N_drew HO594.out)
 replace HO598 := a_ (Kd.R_drew HO598.out)
 replace HO603 := a_ (Kd.N_drew HO603.out)
 replace HO606 := a_ (Kd.R_drew HO606.out)
 replace HO610 := a_ (Kd.N_drew HO610.out)
 replace HO613 := a_ (Kd.R_drew HO613.out)
 replace BK579 := a_ (blk_drew BK579.out)
 replace BK588 := a_ (blk_drew BK588.out)
 replace BK600 := a_ (blk_drew BK600.out)
 replace BK607 := a_ (blk_drew BK607.out)
 replace BK614 := a_ (blk_drew BK614.out)
 replace HB := a_ (below_drew1 HB.out)
 refine start_ (n := 33) (S := fun w' => w'.cell? ⟨gb579, 0, none⟩ = some (.slice Ao26 t571.length co26) ∧ w'.cell? ⟨gb579, 1, none⟩ = some (.int .i64 t574) ∧ w'.cell? ⟨gb579, 2, none⟩ = some (.slice Ao28 t575.length co28) ∧ w'.cell? ⟨gb607, 0, none⟩ = some (.slice Ao48 t601.length co48) ∧ w'.cell? ⟨gb607, 1, none⟩ = some (.int .i64 0) ∧ w'.cell? ⟨gb607, 2, none⟩ = some (.slice Ao47 y604.length co47) ∧ w'.cell? ⟨gb614, 0, none⟩ = some (.slice Ao58 t608.length co58) ∧ w'.cell? ⟨gb614, 1, none⟩ = some (.int .i64 0) ∧ w'.cell? ⟨gb614, 2, none⟩ = some (.slice Ao57 y611.length co57)) (ds := []) #[false, false, false, false, false, false, false, false, false, false, false, false, false, false, false, false, false, false, false, false, false, false, false, false, false, false, false, false, false, false, false, false, false] (by kernel_rfl) rfl rfl ⟨(blk_cell BK579.out 0).trans rfl, (blk_cell BK579.out 1).trans rfl, (blk_cell BK579.out 2).trans rfl, (blk_cell BK607.out 0).trans rfl, (blk_cell BK607.out 1).trans rfl, (blk_cell BK607.out 2).trans rfl, (blk_cell BK614.out 0).trans rfl, (blk_cell BK614.out 1).trans rfl, (blk_cell BK614.out 2).trans rfl⟩ (fun hHeld => ?_); refine with_tabW sleuthlaw21_awake.tab6 sleuthlaw21_awake.bits6 (fun HT_ HW_ => ?_)
 generalize w65.drew = w66 at HO570 HO573 HO577 HO582 HO586 HO591 HO594 HO598 HO603 HO606 HO610 HO613 BK579 BK588 BK600 BK607 BK614 HB hHeld ⊢
 refine tB_ 0 33 HT_.out HW_.out hHeld ?_
 refine one_ (i := 1) (N := some 34) #[true, true, false, false, false, false, false, false, false, false, false, false, false, false, false, false, false, false, false, false, false, false, false, false, false, false, false, false, false, false, false, false, false] rfl rfl (one_of HT_.out (by kernel_rfl)) (by decide) (fun K hK => ?_)
 refine goes_ Tryz.func40 (by kernel_rfl) rfl #[] (by rfl) rfl rfl hL_ ?_
 with_reducible refine (sleuthlaw21_some.calls  t615 _ A8.out).mono ?_
 rintro e w67 ⟨v616, rfl, ho0, hb⟩
 refine ⟨_, rfl, ?_⟩
 have HO617 := a_ (Kd.N_lower (Kd.N_mono (ok' := fun k_ => some k_ ≠ (.slice Ao23 t568.length co23 : Value).ownBlock ∧ some k_ ≠ (.slice Ao26 t571.length co26 : Value).ownBlock ∧ some k_ ≠ (.slice Ao28 t575.length co28 : Value).ownBlock ∧ some k_ ≠ (.slice Ao31 t580.length co31 : Value).ownBlock ∧ some k_ ≠ (.slice Ao34 t584.length co34 : Value).ownBlock ∧ some k_ ≠ (.slice Ao36 t589.length co36 : Value).ownBlock ∧ some k_ ≠ (.slice Ao39 t592.length co39 : Value).ownBlock ∧ some k_ ≠ (.slice Ao43 t596.length co43 : Value).ownBlock ∧ some k_ ≠ (.slice Ao48 t601.length co48 : Value).ownBlock ∧ some k_ ≠ (.slice Ao47 y604.length co47 : Value).ownBlock ∧ some k_ ≠ (.slice Ao58 t608.length co58 : Value).ownBlock ∧ some k_ ≠ (.slice Ao57 y611.length co57 : Value).ownBlock ∧ k_ ≠ gb579 ∧ k_ ≠ gb588 ∧ k_ ≠ gb600 ∧ k_ ≠ gb607 ∧ k_ ≠ gb614) ho0 (fun k_ hk_ => ⟨(Kd.fresh' (Kd.N_lt (hN_ HO570.out)) k_ hk_), (Kd.fresh' (Kd.N_lt (hN_ HO573.out)) k_ hk_), (Kd.fresh' (Kd.R_lt (hR_ HO577.out)) k_ hk_), (Kd.fresh' (Kd.N_lt (hN_ HO582.out)) k_ hk_), (Kd.fresh' (Kd.R_lt (hR_ HO586.out)) k_ hk_), (Kd.fresh' (Kd.N_lt (hN_ HO591.out)) k_ hk_), (Kd.fresh' (Kd.N_lt (hN_ HO594.out)) k_ hk_), (Kd.fresh' (Kd.R_lt (hR_ HO598.out)) k_ hk_), (Kd.fresh' (Kd.N_lt (hN_ HO603.out)) k_ hk_), (Kd.fresh' (Kd.R_lt (hR_ HO606.out)) k_ hk_), (Kd.fresh' (Kd.N_lt (hN_ HO610.out)) k_ hk_), (Kd.fresh' (Kd.R_lt (hR_ HO613.out)) k_ hk_), (Kd.freshB (g := gb579) (o := .cells #[.slice Ao26 t571.length co26, .int .i64 t574, .slice Ao28 t575.length co28] 25 (0, 0)) (hK_ BK579.out) k_ hk_), (Kd.freshB (g := gb588) (o := .cells #[.slice Ao31 t580.length co31, .int .i64 t583, .slice Ao34 t584.length co34] 25 (0, 0)) (hK_ BK588.out) k_ hk_), (Kd.freshB (g := gb600) (o := .cells #[.slice Ao39 t592.length co39, .int .i64 t595, .slice Ao43 t596.length co43] 25 (0, 0)) (hK_ BK600.out) k_ hk_), (Kd.freshB (g := gb607) (o := .cells #[.slice Ao48 t601.length co48, .int .i64 0, .slice Ao47 y604.length co47] 25 (0, 0)) (hK_ BK607.out) k_ hk_), (Kd.freshB (g := gb614) (o := .cells #[.slice Ao58 t608.length co58, .int .i64 0, .slice Ao57 y611.length co57] 25 (0, 0)) (hK_ BK614.out) k_ hk_)⟩)) (below_size hC_))
 replace HO570 := a_ (Kd.N_elder' (hN_ HO570.out) (Kd.N_base ho0) hb)
 replace HO573 := a_ (Kd.N_elder' (hN_ HO573.out) (Kd.N_base ho0) hb)
 replace HO577 := a_ (Kd.R_below (hR_ HO577.out) hb)
 replace HO582 := a_ (Kd.N_elder' (hN_ HO582.out) (Kd.N_base ho0) hb)
 replace HO586 := a_ (Kd.R_below (hR_ HO586.out) hb)
 replace HO591 := a_ (Kd.N_elder' (hN_ HO591.out) (Kd.N_base ho0) hb)
 replace HO594 := a_ (Kd.N_elder' (hN_ HO594.out) (Kd.N_base ho0) hb)
 replace HO598 := a_ (Kd.R_below (hR_ HO598.out) hb)
 replace HO603 := a_ (Kd.N_elder' (hN_ HO603.out) (Kd.N_base ho0) hb)
 replace HO606 := a_ (Kd.R_below (hR_ HO606.out) hb)
 replace HO610 := a_ (Kd.N_elder' (hN_ HO610.out) (Kd.N_base ho0) hb)
 replace HO613 := a_ (Kd.R_below (hR_ HO613.out) hb)
 replace BK579 := a_ (bB_ BK579.out hb)
 replace BK588 := a_ (bB_ BK588.out hb)
 replace BK600 := a_ (bB_ BK600.out hb)
 replace BK607 := a_ (bB_ BK607.out hb)
 replace BK614 := a_ (bB_ BK614.out hb)
 replace HB := a_ (below_step hC_ hb)
 (try clear hb)
 (try clear hb2)
 (try clear hk)
 (try clear hi)
 (try clear ho0)
 obtain ⟨Ao68, co68, eo68⟩ := Kd.N_slice HO617.out
 (first | subst eo68 | (injection eo68 with f1_ f2_ f3_; have f4_ := f1_.symm; have f5_ := f3_.symm; clear f1_ f2_ f3_; subst f4_; subst f5_))
 refine hK.out _ _ ⟨(blk_cell BK579.out 0).trans rfl, (blk_cell BK579.out 1).trans rfl, (blk_cell BK579.out 2).trans rfl, (blk_cell BK607.out 0).trans rfl, (blk_cell BK607.out 1).trans rfl, (blk_cell BK607.out 2).trans rfl, (blk_cell BK614.out 0).trans rfl, (blk_cell BK614.out 1).trans rfl, (blk_cell BK614.out 2).trans rfl⟩ (fun hHeld => ?_)
 clear hK K
 refine norm_ (a' := ?_) ?_ ?_
 rotate_left
 · show Act.put _ (some 34) _ = _
   simp only [Act.put, List.setIfInBounds_toArray, List.set_cons_zero, List.set_cons_succ, i64_w, i32_w]
   rfl
 refine pB_ 2 35 HT_.out ?_
 refine one_ (i := 3) (N := some 36) #[true, true, true, true, false, false, false, false, false, false, false, false, false, false, false, false, false, false, false, false, false, false, false, false, false, false, false, false, false, false, false, false, false] rfl rfl (one_of HT_.out (by kernel_rfl)) (by decide) (fun K hK => ?_)
 refine goes_ Tryz.func15 (by kernel_rfl) rfl #[.agg #[.slice Ao26 t571.length co26, .int .i64 t574, .slice Ao28 t575.length co28], .agg #[.slice Ao68 t615.length co68, .int .i64 1, .slice none 0 0]] (by rfl) rfl rfl hL_ ?_
 refine (sleuthlaw0_SameSession.calls k _ _ t571 t574 _ _ t575 _ _ t615 1 _ _ ([] : List (S46)) true _ ?side1 ?side2 ?side3 ?side4 ?side5 ?side6 ?side7 ?side8 A9.out).mono ?_
 (case side1 => repeat (first | exact (Kd.N_reads' HO573.out).2.2 | (with_reducible refine Kd.C_alloc ?_ _) | (with_reducible refine Kd.C_drewN ?_ _) | (with_reducible refine Kd.C_drew ?_)))
 (case side2 => exact (Kd.N_reads' HO573.out).2.1)
 (case side3 => exact cC_ (Kd.R_reads' HO577.out).2.2)
 (case side4 => exact (Kd.R_reads' HO577.out).2.1)
 (case side5 => repeat (first | exact (Kd.N_reads' HO617.out).2.2 | (with_reducible refine Kd.C_alloc ?_ _) | (with_reducible refine Kd.C_drewN ?_ _) | (with_reducible refine Kd.C_drew ?_)))
 (case side6 => exact (Kd.N_reads' HO617.out).2.1)
 (case side7 => exact Kd.C_nil _ _)
 (case side8 => exact Nat.le_refl _)
 rintro e w69 ⟨rfl, hb⟩
 refine ⟨_, rfl, ?_⟩
 replace HO570 := a_ (Kd.N_below (hN_ HO570.out) hb)
 replace HO573 := a_ (Kd.N_below (hN_ HO573.out) hb)
 replace HO577 := a_ (Kd.R_below (hR_ HO577.out) hb)
 replace HO582 := a_ (Kd.N_below (hN_ HO582.out) hb)
 replace HO586 := a_ (Kd.R_below (hR_ HO586.out) hb)
 replace HO591 := a_ (Kd.N_below (hN_ HO591.out) hb)
 replace HO594 := a_ (Kd.N_below (hN_ HO594.out) hb)
 replace HO598 := a_ (Kd.R_below (hR_ HO598.out) hb)
 replace HO603 := a_ (Kd.N_below (hN_ HO603.out) hb)
 replace HO606 := a_ (Kd.R_below (hR_ HO606.out) hb)
 replace HO610 := a_ (Kd.N_below (hN_ HO610.out) hb)
 replace HO613 := a_ (Kd.R_below (hR_ HO613.out) hb)
 replace HO617 := a_ (Kd.N_below (hN_ HO617.out) hb)
 replace BK579 := a_ (bB_ BK579.out hb)
 replace BK588 := a_ (bB_ BK588.out hb)
 replace BK600 := a_ (bB_ BK600.out hb)
 replace BK607 := a_ (bB_ BK607.out hb)
 replace BK614 := a_ (bB_ BK614.out hb)
 replace HB := a_ (below_step hC_ hb)
 (try clear hb)
 (try clear hb2)
 (try clear hk)
 (try clear hi)
 refine hK.out _ _ ⟨(blk_cell BK579.out 0).trans rfl, (blk_cell BK579.out 1).trans rfl, (blk_cell BK579.out 2).trans rfl, (blk_cell BK607.out 0).trans rfl, (blk_cell BK607.out 1).trans rfl, (blk_cell BK607.out 2).trans rfl, (blk_cell BK614.out 0).trans rfl, (blk_cell BK614.out 1).trans rfl, (blk_cell BK614.out 2).trans rfl⟩ (fun hHeld => ?_)
 clear hK K
 refine norm_ (a' := ?_) ?_ ?_
 rotate_left
 · show Act.put _ (some 36) _ = _
   simp only [Act.put, List.setIfInBounds_toArray, List.set_cons_zero, List.set_cons_succ, i64_w, i32_w]
   rfl
 refine pB_ 4 37 HT_.out ?_
 refine pB_ 5 38 HT_.out ?_
 refine one_ (i := 6) (N := some 39) #[true, true, true, true, true, true, true, false, false, false, false, false, false, false, false, false, false, false, false, false, false, false, false, false, false, false, false, false, false, false, false, false, false] rfl rfl (one_of HT_.out (by kernel_rfl)) (by decide) (fun K hK => ?_)
 refine goes_ Tryz.func13 (by kernel_rfl) rfl #[.int .i64 t578] (by rfl) rfl rfl hL_ ?_
 with_reducible refine (sleuthlaw0_Num.calls t578 t619 _ A11.out).mono ?_
 rintro e w' ⟨rfl, ⟨nd, rfl⟩⟩
 refine ⟨_, rfl, ?_⟩
 refine hK.out _ _ ⟨(blk_cell BK579.out 0).trans rfl, (blk_cell BK579.out 1).trans rfl, (blk_cell BK579.out 2).trans rfl, (blk_cell BK607.out 0).trans rfl, (blk_cell BK607.out 1).trans rfl, (blk_cell BK607.out 2).trans rfl, (blk_cell BK614.out 0).trans rfl, (blk_cell BK614.out 1).trans rfl, (blk_cell BK614.out 2).trans rfl⟩ (fun hHeld => ?_)
 clear hK K
 refine norm_ (a' := ?_) ?_ ?_
 rotate_left
 · show Act.put _ (some 39) _ = _
   simp only [Act.put, List.setIfInBounds_toArray, List.set_cons_zero, List.set_cons_succ, i64_w, i32_w]
   rfl
 refine pB_ 7 40 HT_.out ?_
 refine pB_ 8 41 HT_.out ?_
 refine pB_ 9 42 HT_.out ?_
 refine pB_ 10 43 HT_.out ?_
 refine one_ (i := 11) (N := some 44) #[true, true, true, true, true, true, true, true, true, true, true, true, false, false, false, false, false, false, false, false, false, false, false, false, false, false, false, false, false, false, false, false, false] rfl rfl (one_of HT_.out (by kernel_rfl)) (by decide) (fun K hK => ?_)
 refine goes_ Tryz.func13 (by kernel_rfl) rfl #[.int .i64 t587] (by rfl) rfl rfl hL_ ?_
 with_reducible refine (sleuthlaw0_Num.calls t587 t620 _ A13.out).mono ?_
 rintro e w' ⟨rfl, ⟨nd, rfl⟩⟩
 refine ⟨_, rfl, ?_⟩
 refine hK.out _ _ ⟨(blk_cell BK579.out 0).trans rfl, (blk_cell BK579.out 1).trans rfl, (blk_cell BK579.out 2).trans rfl, (blk_cell BK607.out 0).trans rfl, (blk_cell BK607.out 1).trans rfl, (blk_cell BK607.out 2).trans rfl, (blk_cell BK614.out 0).trans rfl, (blk_cell BK614.out 1).trans rfl, (blk_cell BK614.out 2).trans rfl⟩ (fun hHeld => ?_)
 clear hK K
 refine norm_ (a' := ?_) ?_ ?_
 rotate_left
 · show Act.put _ (some 44) _ = _
   simp only [Act.put, List.setIfInBounds_toArray, List.set_cons_zero, List.set_cons_succ, i64_w, i32_w]
   rfl
 refine pB_ 12 45 HT_.out ?_
 refine pB_ 13 46 HT_.out ?_
 refine pB_ 14 47 HT_.out ?_
 refine pB_ 15 48 HT_.out ?_
 refine one_ (i := 16) (N := some 49) #[true, true, true, true, true, true, true, true, true, true, true, true, true, true, true, true, true, false, false, false, false, false, false, false, false, false, false, false, false, false, false, false, false] rfl rfl (one_of HT_.out (by kernel_rfl)) (by decide) (fun K hK => ?_)
 refine goes_ Tryz.func13 (by kernel_rfl) rfl #[.int .i64 t599] (by rfl) rfl rfl hL_ ?_
 with_reducible refine (sleuthlaw0_Num.calls t599 t621 _ A15.out).mono ?_
 rintro e w' ⟨rfl, ⟨nd, rfl⟩⟩
 refine ⟨_, rfl, ?_⟩
 refine hK.out _ _ ⟨(blk_cell BK579.out 0).trans rfl, (blk_cell BK579.out 1).trans rfl, (blk_cell BK579.out 2).trans rfl, (blk_cell BK607.out 0).trans rfl, (blk_cell BK607.out 1).trans rfl, (blk_cell BK607.out 2).trans rfl, (blk_cell BK614.out 0).trans rfl, (blk_cell BK614.out 1).trans rfl, (blk_cell BK614.out 2).trans rfl⟩ (fun hHeld => ?_)
 clear hK K
 refine norm_ (a' := ?_) ?_ ?_
 rotate_left
 · show Act.put _ (some 49) _ = _
   simp only [Act.put, List.setIfInBounds_toArray, List.set_cons_zero, List.set_cons_succ, i64_w, i32_w]
   rfl
 refine pB_ 17 50 HT_.out ?_
 refine pB_ 18 51 HT_.out ?_
 refine pB_ 19 52 HT_.out ?_
 refine tB_ 20 53 HT_.out HW_.out hHeld ?_
 refine one_ (i := 21) (N := some 54) #[true, true, true, true, true, true, true, true, true, true, true, true, true, true, true, true, true, true, true, true, true, true, false, false, false, false, false, false, false, false, false, false, false] rfl rfl (one_of HT_.out (by kernel_rfl)) (by decide) (fun K hK => ?_)
 refine goes_ Tryz.func20 (by kernel_rfl) rfl #[.agg #[.slice Ao26 t571.length co26, .int .i64 t574, .slice Ao28 t575.length co28]] (by rfl) rfl rfl hL_ ?_
 with_reducible refine (session_May.calls k _ _ t571 t574 _ _ t575 true _ ?side1 ?side2 ?side3 ?side4 A17.out (by first | exact hG | exact GOK.below hG hC_)).mono ?_
 (case side1 => repeat (first | exact (Kd.N_reads' HO573.out).2.2 | (with_reducible refine Kd.C_alloc ?_ _) | (with_reducible refine Kd.C_drewN ?_ _) | (with_reducible refine Kd.C_drew ?_)))
 (case side2 => exact (Kd.N_reads' HO573.out).2.1)
 (case side3 => exact cC_ (Kd.R_reads' HO577.out).2.2)
 (case side4 => exact (Kd.R_reads' HO577.out).2.1)
 rintro e w70 ⟨rfl, hb⟩
 refine ⟨_, rfl, ?_⟩
 replace HO570 := a_ (Kd.N_below (hN_ HO570.out) hb)
 replace HO573 := a_ (Kd.N_below (hN_ HO573.out) hb)
 replace HO577 := a_ (Kd.R_below (hR_ HO577.out) hb)
 replace HO582 := a_ (Kd.N_below (hN_ HO582.out) hb)
 replace HO586 := a_ (Kd.R_below (hR_ HO586.out) hb)
 replace HO591 := a_ (Kd.N_below (hN_ HO591.out) hb)
 replace HO594 := a_ (Kd.N_below (hN_ HO594.out) hb)
 replace HO598 := a_ (Kd.R_below (hR_ HO598.out) hb)
 replace HO603 := a_ (Kd.N_below (hN_ HO603.out) hb)
 replace HO606 := a_ (Kd.R_below (hR_ HO606.out) hb)
 replace HO610 := a_ (Kd.N_below (hN_ HO610.out) hb)
 replace HO613 := a_ (Kd.R_below (hR_ HO613.out) hb)
 replace HO617 := a_ (Kd.N_below (hN_ HO617.out) hb)
 replace BK579 := a_ (bB_ BK579.out hb)
 replace BK588 := a_ (bB_ BK588.out hb)
 replace BK600 := a_ (bB_ BK600.out hb)
 replace BK607 := a_ (bB_ BK607.out hb)
 replace BK614 := a_ (bB_ BK614.out hb)
 replace HB := a_ (below_step hC_ hb)
 (try clear hb)
 (try clear hb2)
 (try clear hk)
 (try clear hi)
 refine hK.out _ _ ⟨(blk_cell BK579.out 0).trans rfl, (blk_cell BK579.out 1).trans rfl, (blk_cell BK579.out 2).trans rfl, (blk_cell BK607.out 0).trans rfl, (blk_cell BK607.out 1).trans rfl, (blk_cell BK607.out 2).trans rfl, (blk_cell BK614.out 0).trans rfl, (blk_cell BK614.out 1).trans rfl, (blk_cell BK614.out 2).trans rfl⟩ (fun hHeld => ?_)
 clear hK K
 refine norm_ (a' := ?_) ?_ ?_
 rotate_left
 · show Act.put _ (some 54) _ = _
   simp only [Act.put, List.setIfInBounds_toArray, List.set_cons_zero, List.set_cons_succ, i64_w, i32_w]
   rfl
 refine pB_ 22 55 HT_.out ?_
 refine pB_ 23 56 HT_.out ?_
 refine tB_ 24 57 HT_.out HW_.out hHeld ?_
 refine one_ (i := 25) (N := some 58) #[true, true, true, true, true, true, true, true, true, true, true, true, true, true, true, true, true, true, true, true, true, true, true, true, true, true, false, false, false, false, false, false, false] rfl rfl (one_of HT_.out (by kernel_rfl)) (by decide) (fun K hK => ?_)
 refine goes_ Tryz.func20 (by kernel_rfl) rfl #[.agg #[.slice Ao48 t601.length co48, .int .i64 0, .slice Ao47 y604.length co47]] (by rfl) rfl rfl hL_ ?_
 with_reducible refine (session_May.calls k _ _ t601 0 _ _ y604 true _ ?side1 ?side2 ?side3 ?side4 A19.out (by first | exact hG | exact GOK.below hG hC_)).mono ?_
 (case side1 => repeat (first | exact (Kd.N_reads' HO603.out).2.2 | (with_reducible refine Kd.C_alloc ?_ _) | (with_reducible refine Kd.C_drewN ?_ _) | (with_reducible refine Kd.C_drew ?_)))
 (case side2 => exact (Kd.N_reads' HO603.out).2.1)
 (case side3 => exact cC_ (Kd.R_reads' HO606.out).2.2)
 (case side4 => exact (Kd.R_reads' HO606.out).2.1)
 rintro e w71 ⟨rfl, hb⟩
 refine ⟨_, rfl, ?_⟩
 replace HO570 := a_ (Kd.N_below (hN_ HO570.out) hb)
 replace HO573 := a_ (Kd.N_below (hN_ HO573.out) hb)
 replace HO577 := a_ (Kd.R_below (hR_ HO577.out) hb)
 replace HO582 := a_ (Kd.N_below (hN_ HO582.out) hb)
 replace HO586 := a_ (Kd.R_below (hR_ HO586.out) hb)
 replace HO591 := a_ (Kd.N_below (hN_ HO591.out) hb)
 replace HO594 := a_ (Kd.N_below (hN_ HO594.out) hb)
 replace HO598 := a_ (Kd.R_below (hR_ HO598.out) hb)
 replace HO603 := a_ (Kd.N_below (hN_ HO603.out) hb)
 replace HO606 := a_ (Kd.R_below (hR_ HO606.out) hb)
 replace HO610 := a_ (Kd.N_below (hN_ HO610.out) hb)
 replace HO613 := a_ (Kd.R_below (hR_ HO613.out) hb)
 replace HO617 := a_ (Kd.N_below (hN_ HO617.out) hb)
 replace BK579 := a_ (bB_ BK579.out hb)
 replace BK588 := a_ (bB_ BK588.out hb)
 replace BK600 := a_ (bB_ BK600.out hb)
 replace BK607 := a_ (bB_ BK607.out hb)
 replace BK614 := a_ (bB_ BK614.out hb)
 replace HB := a_ (below_step hC_ hb)
 (try clear hb)
 (try clear hb2)
 (try clear hk)
 (try clear hi)
 refine hK.out _ _ ⟨(blk_cell BK579.out 0).trans rfl, (blk_cell BK579.out 1).trans rfl, (blk_cell BK579.out 2).trans rfl, (blk_cell BK607.out 0).trans rfl, (blk_cell BK607.out 1).trans rfl, (blk_cell BK607.out 2).trans rfl, (blk_cell BK614.out 0).trans rfl, (blk_cell BK614.out 1).trans rfl, (blk_cell BK614.out 2).trans rfl⟩ (fun hHeld => ?_)
 clear hK K
 refine norm_ (a' := ?_) ?_ ?_
 rotate_left
 · show Act.put _ (some 58) _ = _
   simp only [Act.put, List.setIfInBounds_toArray, List.set_cons_zero, List.set_cons_succ, i64_w, i32_w]
   rfl
 refine pB_ 26 59 HT_.out ?_
 refine pB_ 27 60 HT_.out ?_
 refine tB_ 28 61 HT_.out HW_.out hHeld ?_
 refine one_ (i := 29) (N := some 62) #[true, true, true, true, true, true, true, true, true, true, true, true, true, true, true, true, true, true, true, true, true, true, true, true, true, true, true, true, true, true, false, false, false] rfl rfl (one_of HT_.out (by kernel_rfl)) (by decide) (fun K hK => ?_)
 refine goes_ Tryz.func20 (by kernel_rfl) rfl #[.agg #[.slice Ao58 t608.length co58, .int .i64 0, .slice Ao57 y611.length co57]] (by rfl) rfl rfl hL_ ?_
 with_reducible refine (session_May.calls k _ _ t608 0 _ _ y611 t624 _ ?side1 ?side2 ?side3 ?side4 A21.out (by first | exact hG | exact GOK.below hG hC_)).mono ?_
 (case side1 => repeat (first | exact (Kd.N_reads' HO610.out).2.2 | (with_reducible refine Kd.C_alloc ?_ _) | (with_reducible refine Kd.C_drewN ?_ _) | (with_reducible refine Kd.C_drew ?_)))
 (case side2 => exact (Kd.N_reads' HO610.out).2.1)
 (case side3 => exact cC_ (Kd.R_reads' HO613.out).2.2)
 (case side4 => exact (Kd.R_reads' HO613.out).2.1)
 rintro e w72 ⟨rfl, hb⟩
 refine ⟨_, rfl, ?_⟩
 replace HO570 := a_ (Kd.N_below (hN_ HO570.out) hb)
 replace HO573 := a_ (Kd.N_below (hN_ HO573.out) hb)
 replace HO577 := a_ (Kd.R_below (hR_ HO577.out) hb)
 replace HO582 := a_ (Kd.N_below (hN_ HO582.out) hb)
 replace HO586 := a_ (Kd.R_below (hR_ HO586.out) hb)
 replace HO591 := a_ (Kd.N_below (hN_ HO591.out) hb)
 replace HO594 := a_ (Kd.N_below (hN_ HO594.out) hb)
 replace HO598 := a_ (Kd.R_below (hR_ HO598.out) hb)
 replace HO603 := a_ (Kd.N_below (hN_ HO603.out) hb)
 replace HO606 := a_ (Kd.R_below (hR_ HO606.out) hb)
 replace HO610 := a_ (Kd.N_below (hN_ HO610.out) hb)
 replace HO613 := a_ (Kd.R_below (hR_ HO613.out) hb)
 replace HO617 := a_ (Kd.N_below (hN_ HO617.out) hb)
 replace BK579 := a_ (bB_ BK579.out hb)
 replace BK588 := a_ (bB_ BK588.out hb)
 replace BK600 := a_ (bB_ BK600.out hb)
 replace BK607 := a_ (bB_ BK607.out hb)
 replace BK614 := a_ (bB_ BK614.out hb)
 replace HB := a_ (below_step hC_ hb)
 (try clear hb)
 (try clear hb2)
 (try clear hk)
 (try clear hi)
 refine hK.out _ _ ⟨(blk_cell BK579.out 0).trans rfl, (blk_cell BK579.out 1).trans rfl, (blk_cell BK579.out 2).trans rfl, (blk_cell BK607.out 0).trans rfl, (blk_cell BK607.out 1).trans rfl, (blk_cell BK607.out 2).trans rfl, (blk_cell BK614.out 0).trans rfl, (blk_cell BK614.out 1).trans rfl, (blk_cell BK614.out 2).trans rfl⟩ (fun hHeld => ?_)
 clear hK K
 refine norm_ (a' := ?_) ?_ ?_
 rotate_left
 · show Act.put _ (some 62) _ = _
   simp only [Act.put, List.setIfInBounds_toArray, List.set_cons_zero, List.set_cons_succ, i64_w, i32_w]
   rfl
 refine pB_ 30 63 HT_.out ?_
 refine pB_ 31 64 HT_.out ?_
 refine pB_ 32 0 HT_.out ?_
 refine done_ (done_of HT_.out (by kernel_rfl)) ?_
 try go_wp2
 go_ret
 exact ⟨hV_, hC_⟩
end Go.Proofs.YtgokcaccamfgfaaGreatDoor.G
end
section
/- What the laws of package session share. -/
namespace Go.Proofs.YtgokcaccamfgfaaGreatDoor.G
open Go.RowKit Go.Proofs.YtgokcaccamfgfaaGreatDoorW.PrintWords Go.Proofs.YtgokcaccamfgfaaGreatDoorW.PrintLast Go.Proofs.YtgokcaccamfgfaaGreatDoorW.PrintMore
set_option linter.unusedVariables false
set_option linter.unusedSimpArgs false
def sessSome : List Nd := [(⟨0, (-1), ([] : List ByteArray), (⟨#[57]⟩ : ByteArray)⟩ : Nd), (⟨1, 0, (([(⟨#[64, 55, 40, 95, 32, 52, 41]⟩ : ByteArray), (⟨#[53]⟩ : ByteArray)] : List ByteArray)), (⟨#[57]⟩ : ByteArray)⟩ : Nd), (⟨2, 0, ([] : List ByteArray), (⟨#[33]⟩ : ByteArray)⟩ : Nd), (⟨1, 1, (([(⟨#[49]⟩ : ByteArray), (⟨#[95]⟩ : ByteArray)] : List ByteArray)), (⟨#[95]⟩ : ByteArray)⟩ : Nd), (⟨1, 2, (([(⟨#[49]⟩ : ByteArray), (⟨#[95]⟩ : ByteArray)] : List ByteArray)), (⟨#[95]⟩ : ByteArray)⟩ : Nd)]
theorem sessSome_eq : sleuthlaw21_some.f = some sessSome := rfl
theorem sessSome_may : mayT sessSome = true := by kernel_rfl
theorem sessSome_ok : okN sessSome := ⟨by decide, by
  intro x hx
  have h : (sessSome.all fun x => decide (x.f2.length ≤ 8796093021952)) = true := by kernel_rfl
  exact of_decide_eq_true (List.all_eq_true.1 h x hx)⟩
theorem sessNil_ok : okN [] := ⟨by decide, fun x hx => by cases hx⟩
theorem sessAwake_ev : Ev (fun k => sleuthlaw21_awake.f k) true := by
  unfold sleuthlaw21_awake.f
  simp only [sessSome_eq, Option.bind_some]
  refine Ev.bind (new_ev sessSome sessSome_ok 1) (Ev.bind (new_ev [] sessNil_ok 0) (Ev.bind (new_ev sessSome sessSome_ok 2) ?_))
  have e1 : newF sessSome 1 = (sessSome, 1, [], 0) := by kernel_rfl
  have e2 : newF [] 0 = ([], 0, [], 2100) := by kernel_rfl
  have e3 : newF sessSome 2 = ([], 0, [], 2100) := by kernel_rfl
  rw [e1, e2, e3]
  refine Ev.bind (sameSession_ev sessSome sessSome_ok 1 [] (Nat.zero_le _)) ?_
  simp only [if_pos, sleuthlaw0_Num.f, Option.bind_some]
  refine Ev.bind (sessMay_ev sessSome 1 [] (Nat.zero_le _)) ?_
  have e4 : sessS sessSome 1 [] = true := by kernel_rfl
  have e5 : sessS sessSome 0 [⟨0, 2⟩, ⟨1, 1⟩] = true := by kernel_rfl
  have e6 : sessS sessSome 0 [⟨0, 2⟩, ⟨2, 1⟩] = false := by kernel_rfl
  rw [e4]
  simp only [if_pos]
  refine Ev.bind (sessMay_ev sessSome 0 [⟨0, 2⟩, ⟨1, 1⟩] (by decide)) ?_
  rw [e5]
  simp only [if_pos]
  refine Ev.bind (sessMay_ev sessSome 0 [⟨0, 2⟩, ⟨2, 1⟩] (by decide)) ?_
  rw [e6]
  exact Ev.now _
end Go.Proofs.YtgokcaccamfgfaaGreatDoor.G
end
