-- Laid by the session's own driver gp.py over the kit's printer. Not trusted: Lean checks it.
import Derived.Test.YtbnljapgnfmmoaaGreatDoorU2
import Derived.Test.YtbnljapgnfmmoaaGreatDoorG0
import Derived.Test.YtbnljapgnfmmoaaGreatDoorU7
import Derived.Test.YtbnljapgnfmmoaaGreatDoorU8
import Derived.Test.YtbnljapgnfmmoaaGreatDoorU10
import Derived.Test.YtbnljapgnfmmoaaGreatDoorU11
namespace Go.Proofs.YtbnljapgnfmmoaaGreatDoor.G
open Go.RowKit Go.Proofs.YtbnljapgnfmmoaaGreatDoorW.PrintWords Go.Proofs.YtbnljapgnfmmoaaGreatDoorW.PrintLast Go.Proofs.YtbnljapgnfmmoaaGreatDoorW.PrintMore
set_option maxHeartbeats 8000000
set_option maxRecDepth 100000
attribute [local go_sem] max2_int min2_int max_two min_two max_three min_three max_four min_four   -- for this text's walks alone
set_option linter.unusedVariables false
set_option linter.unusedSimpArgs false

mutual
def sleuthlaw22_AnswerRow.j2 : Nat → Int → List (S66) → Int → List (S53) → List (S66) → Int → List (S53) → Option (Bool)
 | 0, _, _, _, _, _, _, _ => none
 | k + 1, x10, x482000, x482001, x482002, x484000, x484001, x484002 => sleuthlaw22_AnswerRow.l1 k x10 0 x482000 x482001 x482002 x484000 x484001 x484002
def sleuthlaw22_AnswerRow.l1 : Nat → Int → Int → List (S66) → Int → List (S53) → List (S66) → Int → List (S53) → Option (Bool)
 | 0, _, _, _, _, _, _, _, _ => none
 | k + 1, x10, x14, x482000, x482001, x482002, x484000, x484001, x484002 => if x14 < x10 then ((answer_Undo.f k x484000 x484001 x484002).bind fun bt499 => ((sleuthlaw0_Num.f bt499.2.2.2).bind fun t508 => (if t508 = 0 then (if (bt499.2.2.1.length : Int) = (wrap64 ((wrap64 (x10 - 1)) - x14)) then (sleuthlaw22_AnswerRow.l1 k x10 (wrap64 (x14 + 1)) x482000 x482001 x482002 bt499.1 bt499.2.1 bt499.2.2.1) else (none)) else (none)))) else ((sleuthlaw0_SameSession.f k x482000 x482001 x482002 x484000 x484001 x484002).bind fun t495 => (if t495 = true then ((sleuthlaw22_some.f).bind fun t496 => (some ((t496.length : Int) == 5))) else (none)))
def sleuthlaw22_AnswerRow.l0 : Nat → List Int → Int → Int → List (S66) → Int → List (S53) → List (S66) → Int → List (S53) → Option (Bool)
 | 0, _, _, _, _, _, _, _, _, _ => none
 | k + 1, x2, x10, x11, x482000, x482001, x482002, x484000, x484001, x484002 => if x11 < (x2.length : Int) then (sleuthlaw22_AnswerRow.j1 k x2 x10 x11 (decide (x11 < 20)) x482000 x482001 x482002 x484000 x484001 x484002) else (sleuthlaw22_AnswerRow.j1 k x2 x10 x11 false x482000 x482001 x482002 x484000 x484001 x484002)
def sleuthlaw22_AnswerRow.j1 : Nat → List Int → Int → Int → Bool → List (S66) → Int → List (S53) → List (S66) → Int → List (S53) → Option (Bool)
 | 0, _, _, _, _, _, _, _, _, _, _ => none
 | k + 1, x2, x10, x11, x39, x482000, x482001, x482002, x484000, x484001, x484002 => if x39 = true then (if 0 ≤ x11 then (if x11 < (x2.length : Int) then ((answer_Put.f k x484000 x484001 x484002 (wrap64 (1 + (wrap64 (Int.tmod (IntKind.u64.wrap (rd x2 x11)) 3))))).bind fun bt485 => ((sleuthlaw0_Num.f bt485.2.2.2).bind fun t494 => (if t494 = 0 then (sleuthlaw22_AnswerRow.l0 k x2 (wrap64 (x10 + 1)) (wrap64 (x11 + 1)) x482000 x482001 x482002 bt485.1 bt485.2.1 bt485.2.2.1) else (sleuthlaw22_AnswerRow.j2 k x10 x482000 x482001 x482002 x484000 x484001 x484002)))) else (none)) else (none)) else (sleuthlaw22_AnswerRow.j2 k x10 x482000 x482001 x482002 x484000 x484001 x484002)
end
def sleuthlaw22_AnswerRow.f (k : Nat) (l0 : List (S66)) (a1 : Int) (l2 : List Int) : Option (Bool) := (sleuthlaw22_awake.f k).bind fun t472 => (if t472 = true then ((sleuthref12_NewSession.f k l0 (Go.bits .and .i64 a1 1)).bind fun bt473 => (if bt473.2.2.2 = 0 then (sleuthlaw22_AnswerRow.l0 k l2 0 0 bt473.1 bt473.2.1 bt473.2.2.1 bt473.1 bt473.2.1 bt473.2.2.1) else ((sleuthref12_TrailMay.f k l0).bind fun t482 => (some (!t482))))) else (none))
theorem sleuthlaw22_AnswerRow.mono_l : ∀ k, (∀ y0 y1 y2 y3 y4 y5 y6, LeO (sleuthlaw22_AnswerRow.j2 k y0 y1 y2 y3 y4 y5 y6) (sleuthlaw22_AnswerRow.j2 (k + 1) y0 y1 y2 y3 y4 y5 y6)) ∧ (∀ y0 y1 y2 y3 y4 y5 y6 y7, LeO (sleuthlaw22_AnswerRow.l1 k y0 y1 y2 y3 y4 y5 y6 y7) (sleuthlaw22_AnswerRow.l1 (k + 1) y0 y1 y2 y3 y4 y5 y6 y7)) ∧ (∀ y0 y1 y2 y3 y4 y5 y6 y7 y8, LeO (sleuthlaw22_AnswerRow.l0 k y0 y1 y2 y3 y4 y5 y6 y7 y8) (sleuthlaw22_AnswerRow.l0 (k + 1) y0 y1 y2 y3 y4 y5 y6 y7 y8)) ∧ (∀ y0 y1 y2 y3 y4 y5 y6 y7 y8 y9, LeO (sleuthlaw22_AnswerRow.j1 k y0 y1 y2 y3 y4 y5 y6 y7 y8 y9) (sleuthlaw22_AnswerRow.j1 (k + 1) y0 y1 y2 y3 y4 y5 y6 y7 y8 y9))
 | 0 => ⟨fun _ _ _ _ _ _ _ r h => by simp [sleuthlaw22_AnswerRow.j2] at h, fun _ _ _ _ _ _ _ _ r h => by simp [sleuthlaw22_AnswerRow.l1] at h, fun _ _ _ _ _ _ _ _ _ r h => by simp [sleuthlaw22_AnswerRow.l0] at h, fun _ _ _ _ _ _ _ _ _ _ r h => by simp [sleuthlaw22_AnswerRow.j1] at h⟩
 | k + 1 => by
  obtain ⟨ih0, ih1, ih2, ih3⟩ := sleuthlaw22_AnswerRow.mono_l k
  refine ⟨?_, ?_, ?_, ?_⟩
  · intro y0 y1 y2 y3 y4 y5 y6
    unfold sleuthlaw22_AnswerRow.j2
    repeat' first
    | (with_reducible exact ih0 _ _ _ _ _ _ _)
    | (with_reducible exact ih1 _ _ _ _ _ _ _ _)
    | (with_reducible exact ih2 _ _ _ _ _ _ _ _ _)
    | (with_reducible exact ih3 _ _ _ _ _ _ _ _ _ _)
    | (with_reducible exact answer_Put.mono _ _ _ _ _)
    | (with_reducible exact answer_Undo.mono _ _ _ _)
    | (with_reducible exact sleuthlaw0_SameSession.mono _ _ _ _ _ _ _)
    | (with_reducible exact sleuthlaw22_awake.mono _)
    | (with_reducible exact sleuthref12_NewSession.mono _ _ _)
    | (with_reducible exact sleuthref12_TrailMay.mono _ _)
    | (with_reducible exact LeO.refl _)
    | (with_reducible exact LeO.none _)
    | (with_reducible refine LeO.ite ?_ ?_)
    | (with_reducible refine LeO.bind ?_ (fun _ => ?_))
    | exact ih0 _ _ _ _ _ _ _
    | exact ih1 _ _ _ _ _ _ _ _
    | exact ih2 _ _ _ _ _ _ _ _ _
    | exact ih3 _ _ _ _ _ _ _ _ _ _
    | exact answer_Put.mono _ _ _ _ _
    | exact answer_Undo.mono _ _ _ _
    | exact sleuthlaw0_SameSession.mono _ _ _ _ _ _ _
    | exact sleuthlaw22_awake.mono _
    | exact sleuthref12_NewSession.mono _ _ _
    | exact sleuthref12_TrailMay.mono _ _
    | exact LeO.none _
    | refine LeO.ite ?_ ?_
    | refine LeO.bind ?_ (fun _ => ?_)
  · intro y0 y1 y2 y3 y4 y5 y6 y7
    unfold sleuthlaw22_AnswerRow.l1
    repeat' first
    | (with_reducible exact ih0 _ _ _ _ _ _ _)
    | (with_reducible exact ih1 _ _ _ _ _ _ _ _)
    | (with_reducible exact ih2 _ _ _ _ _ _ _ _ _)
    | (with_reducible exact ih3 _ _ _ _ _ _ _ _ _ _)
    | (with_reducible exact answer_Put.mono _ _ _ _ _)
    | (with_reducible exact answer_Undo.mono _ _ _ _)
    | (with_reducible exact sleuthlaw0_SameSession.mono _ _ _ _ _ _ _)
    | (with_reducible exact sleuthlaw22_awake.mono _)
    | (with_reducible exact sleuthref12_NewSession.mono _ _ _)
    | (with_reducible exact sleuthref12_TrailMay.mono _ _)
    | (with_reducible exact LeO.refl _)
    | (with_reducible exact LeO.none _)
    | (with_reducible refine LeO.ite ?_ ?_)
    | (with_reducible refine LeO.bind ?_ (fun _ => ?_))
    | exact ih0 _ _ _ _ _ _ _
    | exact ih1 _ _ _ _ _ _ _ _
    | exact ih2 _ _ _ _ _ _ _ _ _
    | exact ih3 _ _ _ _ _ _ _ _ _ _
    | exact answer_Put.mono _ _ _ _ _
    | exact answer_Undo.mono _ _ _ _
    | exact sleuthlaw0_SameSession.mono _ _ _ _ _ _ _
    | exact sleuthlaw22_awake.mono _
    | exact sleuthref12_NewSession.mono _ _ _
    | exact sleuthref12_TrailMay.mono _ _
    | exact LeO.none _
    | refine LeO.ite ?_ ?_
    | refine LeO.bind ?_ (fun _ => ?_)
  · intro y0 y1 y2 y3 y4 y5 y6 y7 y8
    unfold sleuthlaw22_AnswerRow.l0
    repeat' first
    | (with_reducible exact ih0 _ _ _ _ _ _ _)
    | (with_reducible exact ih1 _ _ _ _ _ _ _ _)
    | (with_reducible exact ih2 _ _ _ _ _ _ _ _ _)
    | (with_reducible exact ih3 _ _ _ _ _ _ _ _ _ _)
    | (with_reducible exact answer_Put.mono _ _ _ _ _)
    | (with_reducible exact answer_Undo.mono _ _ _ _)
    | (with_reducible exact sleuthlaw0_SameSession.mono _ _ _ _ _ _ _)
    | (with_reducible exact sleuthlaw22_awake.mono _)
    | (with_reducible exact sleuthref12_NewSession.mono _ _ _)
    | (with_reducible exact sleuthref12_TrailMay.mono _ _)
    | (with_reducible exact LeO.refl _)
    | (with_reducible exact LeO.none _)
    | (with_reducible refine LeO.ite ?_ ?_)
    | (with_reducible refine LeO.bind ?_ (fun _ => ?_))
    | exact ih0 _ _ _ _ _ _ _
    | exact ih1 _ _ _ _ _ _ _ _
    | exact ih2 _ _ _ _ _ _ _ _ _
    | exact ih3 _ _ _ _ _ _ _ _ _ _
    | exact answer_Put.mono _ _ _ _ _
    | exact answer_Undo.mono _ _ _ _
    | exact sleuthlaw0_SameSession.mono _ _ _ _ _ _ _
    | exact sleuthlaw22_awake.mono _
    | exact sleuthref12_NewSession.mono _ _ _
    | exact sleuthref12_TrailMay.mono _ _
    | exact LeO.none _
    | refine LeO.ite ?_ ?_
    | refine LeO.bind ?_ (fun _ => ?_)
  · intro y0 y1 y2 y3 y4 y5 y6 y7 y8 y9
    unfold sleuthlaw22_AnswerRow.j1
    repeat' first
    | (with_reducible exact ih0 _ _ _ _ _ _ _)
    | (with_reducible exact ih1 _ _ _ _ _ _ _ _)
    | (with_reducible exact ih2 _ _ _ _ _ _ _ _ _)
    | (with_reducible exact ih3 _ _ _ _ _ _ _ _ _ _)
    | (with_reducible exact answer_Put.mono _ _ _ _ _)
    | (with_reducible exact answer_Undo.mono _ _ _ _)
    | (with_reducible exact sleuthlaw0_SameSession.mono _ _ _ _ _ _ _)
    | (with_reducible exact sleuthlaw22_awake.mono _)
    | (with_reducible exact sleuthref12_NewSession.mono _ _ _)
    | (with_reducible exact sleuthref12_TrailMay.mono _ _)
    | (with_reducible exact LeO.refl _)
    | (with_reducible exact LeO.none _)
    | (with_reducible refine LeO.ite ?_ ?_)
    | (with_reducible refine LeO.bind ?_ (fun _ => ?_))
    | exact ih0 _ _ _ _ _ _ _
    | exact ih1 _ _ _ _ _ _ _ _
    | exact ih2 _ _ _ _ _ _ _ _ _
    | exact ih3 _ _ _ _ _ _ _ _ _ _
    | exact answer_Put.mono _ _ _ _ _
    | exact answer_Undo.mono _ _ _ _
    | exact sleuthlaw0_SameSession.mono _ _ _ _ _ _ _
    | exact sleuthlaw22_awake.mono _
    | exact sleuthref12_NewSession.mono _ _ _
    | exact sleuthref12_TrailMay.mono _ _
    | exact LeO.none _
    | refine LeO.ite ?_ ?_
    | refine LeO.bind ?_ (fun _ => ?_)
theorem sleuthlaw22_AnswerRow.mono : ∀ a0 a1 a2 k, LeO (sleuthlaw22_AnswerRow.f k a0 a1 a2) (sleuthlaw22_AnswerRow.f (k + 1) a0 a1 a2) := by
 intro a0 a1 a2 k
 obtain ⟨ih0, ih1, ih2, ih3⟩ := sleuthlaw22_AnswerRow.mono_l k
 unfold sleuthlaw22_AnswerRow.f
 repeat' first
  | (with_reducible exact ih0 _ _ _ _ _ _ _)
  | (with_reducible exact ih1 _ _ _ _ _ _ _ _)
  | (with_reducible exact ih2 _ _ _ _ _ _ _ _ _)
  | (with_reducible exact ih3 _ _ _ _ _ _ _ _ _ _)
  | (with_reducible exact answer_Put.mono _ _ _ _ _)
  | (with_reducible exact answer_Undo.mono _ _ _ _)
  | (with_reducible exact sleuthlaw0_SameSession.mono _ _ _ _ _ _ _)
  | (with_reducible exact sleuthlaw22_awake.mono _)
  | (with_reducible exact sleuthref12_NewSession.mono _ _ _)
  | (with_reducible exact sleuthref12_TrailMay.mono _ _)
  | (with_reducible exact LeO.refl _)
  | (with_reducible exact LeO.none _)
  | (with_reducible refine LeO.ite ?_ ?_)
  | (with_reducible refine LeO.bind ?_ (fun _ => ?_))
  | exact ih0 _ _ _ _ _ _ _
  | exact ih1 _ _ _ _ _ _ _ _
  | exact ih2 _ _ _ _ _ _ _ _ _
  | exact ih3 _ _ _ _ _ _ _ _ _ _
  | exact answer_Put.mono _ _ _ _ _
  | exact answer_Undo.mono _ _ _ _
  | exact sleuthlaw0_SameSession.mono _ _ _ _ _ _ _
  | exact sleuthlaw22_awake.mono _
  | exact sleuthref12_NewSession.mono _ _ _
  | exact sleuthref12_TrailMay.mono _ _
  | exact LeO.none _
  | refine LeO.ite ?_ ?_
  | refine LeO.bind ?_ (fun _ => ?_)
def sleuthlaw22_AnswerRow.T11 : Bool × List (List Nat × List Nat) := (true, [([], []), ([], []), ([], []), ([1, 2], [1, 2]), ([3], [3]), ([4], [4]), ([5], [5]), ([6], [6]), ([7], [7]), ([0, 8], [0, 8]), ([9], [9]), ([10], [10]), ([10], [10]), ([], []), ([13, 11, 9, 0, 1, 2, 3, 4, 5, 6, 7, 8, 9, 10, 11, 13], [11, 13]), ([12, 14, 0, 1, 2, 3, 4, 5, 6, 7, 8, 9, 10, 11, 12, 13, 14], [12])])
def sleuthlaw22_AnswerRow.B11 : List Nat := [0, 0, 0, 6, 14, 30, 62, 126, 254, 511, 1023, 2047, 2047, 0, 12287, 32767]
theorem sleuthlaw22_AnswerRow.tab11 : rtab .any (opsOf Tryz.f6 11) = sleuthlaw22_AnswerRow.T11 := by kernel_rfl
theorem sleuthlaw22_AnswerRow.bits11 : waitsOk sleuthlaw22_AnswerRow.T11.2 sleuthlaw22_AnswerRow.B11 = true := by kernel_rfl
theorem sleuthlaw22_AnswerRow.calls (k : Nat) (A0 : Option Addr) (c0 : Nat) (l0 : List (S66)) (a1 : Int) (A2 : Option Addr) (c2 : Nat) (l2 : List Int) (r : Bool) (w : World) (hr0 : Kd.C k66 w A0 l0.length l0) (hc0 : l0.length ≤ c0) (hr2 : Kd.C (Kd.int .i64) w A2 l2.length l2) (hc2 : l2.length ≤ c2) (h : sleuthlaw22_AnswerRow.f k l0 a1 l2 = some r) (hG : GOK w) :
 Calls Tryz.prog 6 #[.slice A0 l0.length c0, .int .i64 a1, .slice A2 l2.length c2] w fun e w' => e = .returned (.bool r) ∧ Below w.heap.size w w' := by
 have hu25 := Tryz.underlying25
 have HR0 := a_ hr0
 have HC0 := a_ hc0
 clear hr0 hc0
 have HR2 := a_ hr2
 have HC2 := a_ hc2
 clear hr2 hc2
 have HB := a_ (Below.refl w.heap.size w)
 have H := h; unfold sleuthlaw22_AnswerRow.f at H
 clear h
 replace H := Option.bind_eq_some_iff.mp H
 obtain ⟨t472, A40, H⟩ := H
 try dsimp only at H
 have A4 := a_ A40
 clear A40
 by_cases c5 : t472 = true
 case neg =>
  replace c5 := Bool.eq_false_iff.mpr c5
  subst c5
  rw [if_neg (show ¬ (false = true) by decide)] at H
  cases H
 subst c5
 rw [if_pos rfl] at H
 replace H := Option.bind_eq_some_iff.mp H
 obtain ⟨⟨t473, t476, t477, t480⟩, A60, H⟩ := H
 try dsimp only at H
 have A6 := a_ A60
 clear A60
 by_cases c7 : t480 = 0
 case neg =>
  rw [if_neg c7] at H
  have c7b0 : (t480 == 0) = false := beq_eq_false_iff_ne.mpr c7
  have c7b1 : (t480 != 0) = true := bne_iff_ne.mpr c7
  replace H := Option.bind_eq_some_iff.mp H
  obtain ⟨t482, A1090, H⟩ := H
  try dsimp only at H
  have A109 := a_ A1090
  clear A1090
  obtain rfl := Option.some.inj H
  go_enter Tryz.func6, Tryz.ntmps6
  go_wp2_with (first | ((with_reducible refine gate_callee (f := 15) rfl ?_); refine goesL_ (some 17) rfl rfl Tryz.func15 (by kernel_rfl) rfl #[] rfl hL_ ?_; (with_reducible refine (sleuthlaw22_awake.calls k  true _ A4.out hG_).mono ?_); rintro e w110 ⟨rfl, hb⟩; refine ⟨_, rfl, ?_⟩; replace HB := a_ (below_step hB_ hb); (try clear hb); (try clear hb2); (try clear hk); (try clear hi)) | ((with_reducible refine gate_callee (f := 17) rfl ?_); refine goesL_ (some 23) rfl rfl Tryz.func17 (by kernel_rfl) rfl #[.slice A0 l0.length c0, .int .i64 (Go.bits .and .i64 a1 1)] rfl hL_ ?_; (with_reducible refine (sleuthref12_NewSession.calls k _ _ l0 (Go.bits .and .i64 a1 1) t473 t476 t477 t480 _ ?side1 ?side2 A6.out).mono ?_); (case side1 => exact cB_ HR0.out); (case side2 => exact HC0.out); rintro e w111 ⟨v474, v478, rfl, ho0, ho1, hb⟩; refine ⟨_, rfl, ?_⟩; have HO475 := a_ (Kd.N_lower (Kd.N_mono (ok' := fun k_ => some k_ ≠ (v478 : Value).ownBlock) (Kd.S_N (Kd.S_bound (Kd.S_apart' ho0 (Kd.R_typed ho1) (by decide)))) (fun k_ hk_ => hk_.1.2)) hS_); have HO479 := a_ (Kd.R_lower ho1 hS_); replace HB := a_ (below_step hB_ hb); (try clear hb); (try clear hb2); (try clear hk); (try clear hi); (try clear ho0); (try clear ho1)) | ((with_reducible refine gate_dst (N := 7) rfl ?_); (try (refine gate_guard (by rfl) ?_; dsimp only)); refine boxE_ 7 #[.slice none 0 0, .int .i64 0, .slice none 0 0] 25 ?_; intro gb481 hg w112 hbox hb; replace HO475 := a_ (Kd.N_below (Kd.N_elderB (hN_ HO475.out) gb481 (Nat.le_of_eq hg.symm)) hb); replace HO479 := a_ (Kd.R_below (hR_ HO479.out) hb); have BK481 := a_ (hbox); have GW481 := a_ ((gE_ hg : w.heap.size ≤ gb481)); have GE481 := a_ ((gE_ hg : w.heap.size ≤ gb481)); replace HB := a_ (below_step hB_ hb); clear hb hbox hg; obtain ⟨Ao113, co113, eo113⟩ := Kd.N_slice HO475.out; subst eo113; obtain ⟨hcz114_0, hcz114_1, hcz114_2, hfz114_0, hfz114_1, hfz114_2⟩ := bx3_ BK481.out; obtain ⟨Ao115, co115, eo115⟩ := Kd.R_slice HO479.out; subst eo115) | ((with_reducible refine gate_callee (f := 18) rfl ?_); refine goesL_ (some 29) rfl rfl Tryz.func18 (by kernel_rfl) rfl #[.slice A0 l0.length c0] rfl hL_ ?_; (with_reducible refine (sleuthref12_TrailMay.calls k _ _ l0 t482 _ ?side1 ?side2 A109.out).mono ?_); (case side1 => exact Kd.C_below HR0.out hC_); (case side2 => exact HC0.out); rintro e w116 ⟨rfl, hb⟩; refine ⟨_, rfl, ?_⟩; replace HO475 := a_ (Kd.N_below (by (with_reducible repeat (first | apply Kd.N_alloc | apply Kd.N_drewN | apply Kd.N_drew)); exact (Kd.N_mono (nF_ (nF_ (nF_ (Kd.N_mono HO475.out (fun k_ hk => (⟨hk, hk.2⟩ : _ ∧ k_ ≠ gb481)))))) (fun _ h_ => h_.1))) hb); replace HO479 := a_ (Kd.R_below (by (with_reducible repeat (first | apply Kd.R_alloc | apply Kd.R_drewN | apply Kd.R_drew)); exact (Kd.R_mono (rF_ (rF_ (rF_ (Kd.R_types HO479.out BK481.out (by decide))))) (fun _ h_ => h_.1))) hb); replace BK481 := a_ (blk_below (g := gb481) (o := .cells #[.slice Ao113 t473.length co113, .int .i64 t476, .slice Ao115 t477.length co115] 25 (0, 0)) (by (with_reducible repeat (first | refine blk_drewN ?_ _ | refine blk_drew ?_ | refine blk_alloc ?_ _)); exact (bP_ (bP_ (bP_ (hK_ BK481.out))))) hb); replace HB := a_ (below_step hC_ hb); (try clear hb); (try clear hb2); (try clear hk); (try clear hi)))
  go_ret
  exact ⟨hV_, hC_⟩
 rw [if_pos c7] at H
 have c7b0 : (t480 == 0) = true := beq_iff_eq.mpr c7
 have c7b1 : (t480 != 0) = false := bne_eq_false_iff_eq.mpr c7
 clear c7
 have HC8 := a_ H
 clear H
 go_enter Tryz.func6, Tryz.ntmps6
 go_upto_block 0 with (first | ((with_reducible refine gate_callee (f := 15) rfl ?_); refine goesL_ (some 17) rfl rfl Tryz.func15 (by kernel_rfl) rfl #[] rfl hL_ ?_; (with_reducible refine (sleuthlaw22_awake.calls k  true _ A4.out hG_).mono ?_); rintro e w9 ⟨rfl, hb⟩; refine ⟨_, rfl, ?_⟩; replace HB := a_ (below_step hB_ hb); (try clear hb); (try clear hb2); (try clear hk); (try clear hi)) | ((with_reducible refine gate_callee (f := 17) rfl ?_); refine goesL_ (some 23) rfl rfl Tryz.func17 (by kernel_rfl) rfl #[.slice A0 l0.length c0, .int .i64 (Go.bits .and .i64 a1 1)] rfl hL_ ?_; (with_reducible refine (sleuthref12_NewSession.calls k _ _ l0 (Go.bits .and .i64 a1 1) t473 t476 t477 t480 _ ?side1 ?side2 A6.out).mono ?_); (case side1 => exact cB_ HR0.out); (case side2 => exact HC0.out); rintro e w10 ⟨v474, v478, rfl, ho0, ho1, hb⟩; refine ⟨_, rfl, ?_⟩; have HO475 := a_ (Kd.N_lower (Kd.N_mono (ok' := fun k_ => some k_ ≠ (v478 : Value).ownBlock) (Kd.S_N (Kd.S_bound (Kd.S_apart' ho0 (Kd.R_typed ho1) (by decide)))) (fun k_ hk_ => hk_.1.2)) hS_); have HO479 := a_ (Kd.R_lower ho1 hS_); replace HB := a_ (below_step hB_ hb); (try clear hb); (try clear hb2); (try clear hk); (try clear hi); (try clear ho0); (try clear ho1)) | ((with_reducible refine gate_dst (N := 7) rfl ?_); (try (refine gate_guard (by rfl) ?_; dsimp only)); refine boxE_ 7 #[.slice none 0 0, .int .i64 0, .slice none 0 0] 25 ?_; intro gb481 hg w11 hbox hb; replace HO475 := a_ (Kd.N_below (Kd.N_elderB (hN_ HO475.out) gb481 (Nat.le_of_eq hg.symm)) hb); replace HO479 := a_ (Kd.R_below (hR_ HO479.out) hb); have BK481 := a_ (hbox); have GW481 := a_ ((gE_ hg : w.heap.size ≤ gb481)); have GE481 := a_ ((gE_ hg : w.heap.size ≤ gb481)); replace HB := a_ (below_step hB_ hb); clear hb hbox hg; obtain ⟨Ao12, co12, eo12⟩ := Kd.N_slice HO475.out; subst eo12; obtain ⟨hcz13_0, hcz13_1, hcz13_2, hfz13_0, hfz13_1, hfz13_2⟩ := bx3_ BK481.out; obtain ⟨Ao14, co14, eo14⟩ := Kd.R_slice HO479.out; subst eo14) | ((with_reducible refine gate_dst (N := 9) rfl ?_); (try (refine gate_guard (by rfl) ?_; dsimp only)); refine boxE_ 9 #[.slice none 0 0, .int .i64 0, .slice none 0 0] 25 ?_; intro gb483 hg w15 hbox hb; replace HO475 := a_ (Kd.N_below (Kd.N_elderB (by (with_reducible repeat (first | apply Kd.N_alloc | apply Kd.N_drewN | apply Kd.N_drew)); exact (Kd.N_mono (nF_ (nF_ (nF_ (Kd.N_mono HO475.out (fun k_ hk => (⟨hk, hk.2⟩ : _ ∧ k_ ≠ gb481)))))) (fun _ h_ => h_.1))) gb483 (Nat.le_of_eq hg.symm)) hb); replace HO479 := a_ (Kd.R_below (by (with_reducible repeat (first | apply Kd.R_alloc | apply Kd.R_drewN | apply Kd.R_drew)); exact (Kd.R_mono (rF_ (rF_ (rF_ (Kd.R_types HO479.out BK481.out (by decide))))) (fun _ h_ => h_.1))) hb); have BK483 := a_ (hbox); have GW483 := a_ ((gE_ hg : w.heap.size ≤ gb483)); have GE483 := a_ ((gE_ hg : w.heap.size ≤ gb483)); replace HB := a_ (below_step hC_ hb); have NB481_483 := a_ ((by rw [hg]; exact Nat.ne_of_lt (blk_lt (g := gb481) (o := .cells #[.slice Ao12 t473.length co12, .int .i64 t476, .slice Ao14 t477.length co14] 25 (0, 0)) (bP_ (bP_ (bP_ (hK_ BK481.out))))) : gb481 ≠ gb483)); have NB483_481 := a_ ((by rw [hg]; exact Nat.ne_of_gt (blk_lt (g := gb481) (o := .cells #[.slice Ao12 t473.length co12, .int .i64 t476, .slice Ao14 t477.length co14] 25 (0, 0)) (bP_ (bP_ (bP_ (hK_ BK481.out))))) : gb483 ≠ gb481)); replace BK481 := a_ (blk_below (g := gb481) (o := .cells #[.slice Ao12 t473.length co12, .int .i64 t476, .slice Ao14 t477.length co14] 25 (0, 0)) (by (with_reducible repeat (first | refine blk_drewN ?_ _ | refine blk_drew ?_ | refine blk_alloc ?_ _)); exact (bP_ (bP_ (bP_ (hK_ BK481.out))))) hb); clear hb hbox hg; have hnb16 := NB483_481.out; have hnc16 := NB481_483.out; obtain ⟨hcz17_0, hcz17_1, hcz17_2, hfz17_0, hfz17_1, hfz17_2⟩ := bx3_ BK483.out))
 (try simp only [Act.put, List.setIfInBounds_toArray, List.set_cons_zero, List.set_cons_succ])
 go_cut [10] (fun v10 wc => ∃ (kq : Nat) (x10_7 : Int) (x484000_7 : List (S66)) (x484001_7 : Int) (x484002_7 : List (S53)) (u484000 : Value) (u484002 : Value), v10 = .int .i64 x10_7 ∧ Aside0 (sleuthlaw22_AnswerRow.j2 kq x10_7 t473 t476 t477 x484000_7 x484001_7 x484002_7 = some r) ∧ Aside0 (kq ≤ k) ∧ Aside0 (Kd.N k66 66 wc w.heap.size (fun k_ => some k_ ≠ ((.slice Ao14 t477.length co14) : Value).ownBlock ∧ some k_ ≠ (u484002 : Value).ownBlock ∧ k_ ≠ gb481 ∧ k_ ≠ gb483) (.slice Ao12 t473.length co12) t473) ∧ Aside0 (Kd.R k53 53 wc w.heap.size (fun _ => True) (.slice Ao14 t477.length co14) t477) ∧ Aside0 (Kd.N k66 66 wc w.heap.size (fun k_ => some k_ ≠ ((.slice Ao14 t477.length co14) : Value).ownBlock ∧ some k_ ≠ (u484002 : Value).ownBlock ∧ k_ ≠ gb481 ∧ k_ ≠ gb483) u484000 x484000_7) ∧ Aside0 (Kd.R k53 53 wc w.heap.size (fun _ => True) u484002 x484002_7) ∧ Aside0 (wc.heap[gb481]? = some (.cells #[(.slice Ao12 t473.length co12), .int .i64 t476, (.slice Ao14 t477.length co14)] 25 (0, 0))) ∧ Aside0 (wc.heap[gb483]? = some (.cells #[u484000, .int .i64 x484001_7, u484002] 25 (0, 0))) ∧ Aside0 (Below w.heap.size w wc))
 case first =>
  have H := HC8.out
  clear HC8
  have H' := a_ H
  clear H
  go_wp2
  go_loopg [10, 11] k (fun kq v10 v11 w' => ∃ (x10_1 : Int) (x11_1 : Int) (x484000_1 : List (S66)) (x484001_1 : Int) (x484002_1 : List (S53)) (u484000 : Value) (u484002 : Value), v10 = .int .i64 x10_1 ∧ v11 = .int .i64 x11_1 ∧ Aside0 (sleuthlaw22_AnswerRow.l0 kq l2 x10_1 x11_1 t473 t476 t477 x484000_1 x484001_1 x484002_1 = some r) ∧ Aside0 (kq ≤ k) ∧ Aside0 (Kd.N k66 66 w' w.heap.size (fun k_ => some k_ ≠ ((.slice Ao14 t477.length co14) : Value).ownBlock ∧ some k_ ≠ (u484002 : Value).ownBlock ∧ k_ ≠ gb481 ∧ k_ ≠ gb483) (.slice Ao12 t473.length co12) t473) ∧ Aside0 (Kd.R k53 53 w' w.heap.size (fun _ => True) (.slice Ao14 t477.length co14) t477) ∧ Aside0 (Kd.N k66 66 w' w.heap.size (fun k_ => some k_ ≠ ((.slice Ao14 t477.length co14) : Value).ownBlock ∧ some k_ ≠ (u484002 : Value).ownBlock ∧ k_ ≠ gb481 ∧ k_ ≠ gb483) u484000 x484000_1) ∧ Aside0 (Kd.R k53 53 w' w.heap.size (fun _ => True) u484002 x484002_1) ∧ Aside0 (w'.heap[gb481]? = some (.cells #[(.slice Ao12 t473.length co12), .int .i64 t476, (.slice Ao14 t477.length co14)] 25 (0, 0))) ∧ Aside0 (w'.heap[gb483]? = some (.cells #[u484000, .int .i64 x484001_1, u484002] 25 (0, 0))) ∧ Aside0 (Below w.heap.size w w'))
  case atStart => exact ⟨(0), (0), (t473), (t476), (t477), (.slice Ao12 t473.length co12), (.slice Ao14 t477.length co14), hW_, hW_, H', ⟨Nat.le_refl _⟩, ⟨by (with_reducible repeat (first | apply Kd.N_alloc | apply Kd.N_drewN | apply Kd.N_drew)); exact Kd.N_mono (nF_ (nF_ (nF_ (Kd.N_mono HO475.out (fun k_ hk => (⟨hk, hk.2⟩ : _ ∧ k_ ≠ gb483)))))) (fun _ hk => ⟨hk.1.1.1, ⟨hk.1.1.1, ⟨hk.1.1.2, hk.1.2⟩⟩⟩)⟩, ⟨hR_ (Kd.R_mono (rF_ (rF_ (rF_ (Kd.R_types HO479.out BK483.out (by decide))))) (fun _ hk => trivial))⟩, ⟨by (with_reducible repeat (first | apply Kd.N_alloc | apply Kd.N_drewN | apply Kd.N_drew)); exact Kd.N_mono (nF_ (nF_ (nF_ (Kd.N_mono HO475.out (fun k_ hk => (⟨hk, hk.2⟩ : _ ∧ k_ ≠ gb483)))))) (fun _ hk => ⟨hk.1.1.1, ⟨hk.1.1.1, ⟨hk.1.1.2, hk.1.2⟩⟩⟩)⟩, ⟨hR_ (Kd.R_mono (rF_ (rF_ (rF_ (Kd.R_types HO479.out BK483.out (by decide))))) (fun _ hk => trivial))⟩, ⟨(bF_ (bF_ (bF_ (hK_ BK481.out) NB481_483.out) NB481_483.out) NB481_483.out)⟩, ⟨(bP_ (bP_ (bP_ (hK_ BK483.out))))⟩, ⟨hC_⟩⟩
  case round =>
   clear H'
   try clear c1
   try clear c2
   try clear p2
   try clear c5
   try clear c6
   try clear c7
   try clear c7b0
   try clear c7b1
   try clear c15
   try clear c16
   try clear c17
   try clear hcz13_0
   try clear hcz13_1
   try clear hcz13_2
   try clear hcz17_0
   try clear hcz17_1
   try clear hcz17_2
   try clear hfz13_0
   try clear hfz13_1
   try clear hfz13_2
   try clear hfz17_0
   try clear hfz17_1
   try clear hfz17_2
   obtain ⟨x10_1, x11_1, x484000_1, x484001_1, x484002_1, u484000, u484002, rfl, rfl, HA, HK1, HO_482000, HO_482002, HO_484000, HO_484002, BK481, BK483, HB⟩ := hrel
   cases gk with
   | zero => exact absurd HA.out (by simp [sleuthlaw22_AnswerRow.l0])
   | succ k1 =>
    have H := HA.out
    clear HA
    simp only [sleuthlaw22_AnswerRow.l0] at H
    have HC18 := a_ H
    clear H
    go_upto_region 9 with (fail)
    go_cut [39] (fun v39 wc => ∃ (kq : Nat) (x39_17 : Bool), v39 = .bool x39_17 ∧ Aside0 (sleuthlaw22_AnswerRow.j1 kq l2 x10_1 x11_1 x39_17 t473 t476 t477 x484000_1 x484001_1 x484002_1 = some r) ∧ Aside0 (kq ≤ k1) ∧ Aside0 (Kd.N k66 66 wc w.heap.size (fun k_ => some k_ ≠ ((.slice Ao14 t477.length co14) : Value).ownBlock ∧ some k_ ≠ (u484002 : Value).ownBlock ∧ k_ ≠ gb481 ∧ k_ ≠ gb483) (.slice Ao12 t473.length co12) t473) ∧ Aside0 (Kd.R k53 53 wc w.heap.size (fun _ => True) (.slice Ao14 t477.length co14) t477) ∧ Aside0 (Kd.N k66 66 wc w.heap.size (fun k_ => some k_ ≠ ((.slice Ao14 t477.length co14) : Value).ownBlock ∧ some k_ ≠ (u484002 : Value).ownBlock ∧ k_ ≠ gb481 ∧ k_ ≠ gb483) u484000 x484000_1) ∧ Aside0 (Kd.R k53 53 wc w.heap.size (fun _ => True) u484002 x484002_1) ∧ Aside0 (wc.heap[gb481]? = some (.cells #[(.slice Ao12 t473.length co12), .int .i64 t476, (.slice Ao14 t477.length co14)] 25 (0, 0))) ∧ Aside0 (wc.heap[gb483]? = some (.cells #[u484000, .int .i64 x484001_1, u484002] 25 (0, 0))) ∧ Aside0 (Below w.heap.size w wc))
    case first =>
     have H := HC18.out
     clear HC18
     by_cases c19 : x11_1 < (l2.length : Int)
     case neg =>
      rw [if_neg c19] at H
      have c19b0 : decide (x11_1 < (l2.length : Int)) = false := decide_eq_false c19
      clear c19
      (first | rw [c19b0] | (simp only [i64_w, i32_w]; rw [c19b0]) | skip)
      have H' := a_ H
      clear H
      go_wp2
      go_meet
      case rel => exact ⟨_, (false), hW_, H', ⟨by have := HK1.out; first | omega | exact Nat.le_refl _⟩, ⟨hN_ HO_482000.out⟩, ⟨hR_ HO_482002.out⟩, ⟨hN_ HO_484000.out⟩, ⟨hR_ HO_484002.out⟩, ⟨(hK_ BK481.out)⟩, ⟨(hK_ BK483.out)⟩, ⟨hC_⟩⟩
     rw [if_pos c19] at H
     have c19b0 : decide (x11_1 < (l2.length : Int)) = true := decide_eq_true c19
     clear c19
     (first | rw [c19b0] | (simp only [i64_w, i32_w]; rw [c19b0]) | skip)
     have H' := a_ H
     clear H
     go_wp2
     go_meet
     case rel => exact ⟨_, (decide (x11_1 < 20)), hW_, H', ⟨by have := HK1.out; first | omega | exact Nat.le_refl _⟩, ⟨hN_ HO_482000.out⟩, ⟨hR_ HO_482002.out⟩, ⟨hN_ HO_484000.out⟩, ⟨hR_ HO_484002.out⟩, ⟨(hK_ BK481.out)⟩, ⟨(hK_ BK483.out)⟩, ⟨hC_⟩⟩
    case rest =>
     clear HC18
     try clear c1
     try clear c2
     try clear p2
     try clear c5
     try clear c6
     try clear c7
     try clear c7b0
     try clear c7b1
     try clear c15
     try clear c16
     try clear c17
     try clear c19
     try clear c19b0
     try clear hcz13_0
     try clear hcz13_1
     try clear hcz13_2
     try clear hcz17_0
     try clear hcz17_1
     try clear hcz17_2
     try clear hfz13_0
     try clear hfz13_1
     try clear hfz13_2
     try clear hfz17_0
     try clear hfz17_1
     try clear hfz17_2
     try clear p2
     obtain ⟨kq, x39_17, rfl, HA, HJ17, HO_482000, HO_482002, HO_484000, HO_484002, BK481, BK483, HB⟩ := hcut
     cases kq with
     | zero => exact absurd HA.out (by simp [sleuthlaw22_AnswerRow.j1])
     | succ kj17 =>
      have H := HA.out
      clear HA
      simp only [sleuthlaw22_AnswerRow.j1] at H
      by_cases c20 : x39_17 = true
      case neg =>
       replace c20 := Bool.eq_false_iff.mpr c20
       subst c20
       rw [if_neg (show ¬ (false = true) by decide)] at H
       have H' := a_ H
       clear H
       go_wp2
       go_meet
       case rel => exact ⟨_, (x10_1), (x484000_1), (x484001_1), (x484002_1), (u484000), (u484002), hW_, H', ⟨by have := HK1.out; have := HJ17.out; first | omega | exact Nat.le_refl _⟩, ⟨hN_ HO_482000.out⟩, ⟨hR_ HO_482002.out⟩, ⟨hN_ HO_484000.out⟩, ⟨hR_ HO_484002.out⟩, ⟨(hK_ BK481.out)⟩, ⟨(hK_ BK483.out)⟩, ⟨hC_⟩⟩
      subst c20
      rw [if_pos rfl] at H
      replace H := ifI_ H; obtain ⟨c21, H⟩ := H
      have c21b0 : decide (0 ≤ x11_1) = true := decide_eq_true c21
      clear c21
      replace H := ifI_ H; obtain ⟨c22, H⟩ := H
      have c22b0 : decide (x11_1 < (l2.length : Int)) = true := decide_eq_true c22
      clear c22
      replace H := Option.bind_eq_some_iff.mp H
      obtain ⟨⟨t485, t488, t489, t492⟩, A230, H⟩ := H
      try dsimp only at H
      have A23 := a_ A230
      clear A230
      replace H := Option.bind_eq_some_iff.mp H
      obtain ⟨t494, A240, H⟩ := H
      try dsimp only at H
      have A24 := a_ A240
      clear A240
      by_cases c25 : t494 = 0
      case neg =>
       rw [if_neg c25] at H
       have c25b0 : (t494 == 0) = false := beq_eq_false_iff_ne.mpr c25
       have c25b1 : (t494 != 0) = true := bne_iff_ne.mpr c25
       have H' := a_ H
       clear H
       obtain ⟨Ao42, co42, eo42⟩ := Kd.N_slice HO_484000.out
       subst eo42
       obtain ⟨Ao43, co43, eo43⟩ := Kd.R_slice HO_484002.out
       subst eo43
       try go_wp2
       replace HO_482000 := a_ (Kd.N_drew HO_482000.out)
       replace HO_482002 := a_ (Kd.R_drew HO_482002.out)
       replace HO_484000 := a_ (Kd.N_drew HO_484000.out)
       replace HO_484002 := a_ (Kd.R_drew HO_484002.out)
       replace BK481 := a_ (blk_drew BK481.out)
       replace BK483 := a_ (blk_drew BK483.out)
       replace HB := a_ (below_drew1 HB.out)
       have p484 : 0 ≤ (x11_1 : Int) := of_decide_eq_true hA_
       have q484 : x11_1 < (l2.length : Int) := of_decide_eq_true hA_
       obtain ⟨ad484, e484, hx484_0⟩ := Kd.at_int HR2.out x11_1 p484 q484
       have hw484_0 := hx484_0
       cases e484
       replace hx484_0 := cl_ HB.out hx484_0
       replace p484 := eq_true p484
       replace q484 := eq_true q484
       refine start_ (n := 16) (S := fun w' => w'.cell? ⟨gb483, 0, none⟩ = some (.slice Ao42 x484000_1.length co42) ∧ w'.cell? ⟨gb483, 1, none⟩ = some (.int .i64 x484001_1) ∧ w'.cell? ⟨gb483, 2, none⟩ = some (.slice Ao43 x484002_1.length co43) ∧ w'.cell? (ad484.add (x11_1).toNat) = some (.int .i64 (rd l2 x11_1))) (ds := []) #[false, false, false, false, false, false, false, false, false, false, false, false, false, false, false, false] (by kernel_rfl) rfl rfl ⟨(blk_cell BK483.out 0).trans rfl, (blk_cell BK483.out 1).trans rfl, (blk_cell BK483.out 2).trans rfl, (cl_ HB.out hw484_0)⟩ (fun hHeld => ?_); refine with_tabW sleuthlaw22_AnswerRow.tab11 sleuthlaw22_AnswerRow.bits11 (fun HT_ HW_ => ?_)
       generalize wc.drew = w44 at HO_482000 HO_482002 HO_484000 HO_484002 BK481 BK483 HB hx484_0 hHeld ⊢
       refine pB_ 1 44 HT_.out ?_
       refine pB_ 2 45 HT_.out ?_
       refine pB_ 3 46 HT_.out ?_
       refine tB_ 0 43 HT_.out HW_.out hHeld ?_
       refine tB_ 4 47 HT_.out HW_.out hHeld ?_
       refine pB_ 5 48 HT_.out ?_
       refine pB_ 6 49 HT_.out ?_
       refine pB_ 7 50 HT_.out ?_
       refine pB_ 8 51 HT_.out ?_
       refine join_ (σ := Value × Value × Nat) 2 #[true, true, true, true, true, true, true, true, true, true, true, true, true, true, false, false] (fun s_ => [(52, .tuple #[.agg #[s_.1, .int .i64 t488, s_.2.1], .int .i64 t492]), (12, .pointer (some ⟨s_.2.2, 0, none⟩)), (42, .tuple #[.agg #[s_.1, .int .i64 t488, s_.2.1], .int .i64 t492]), (53, .agg #[s_.1, .int .i64 t488, s_.2.1]), (54, .int .i64 t492)]) (fun s_ w' => (w'.cell? ⟨gb483, 0, none⟩ = some (.slice Ao42 x484000_1.length co42) ∧ w'.cell? ⟨gb483, 1, none⟩ = some (.int .i64 x484001_1) ∧ w'.cell? ⟨gb483, 2, none⟩ = some (.slice Ao43 x484002_1.length co43) ∧ w'.cell? (ad484.add (x11_1).toNat) = some (.int .i64 (rd l2 x11_1))) ∧ (Kd.N k66 66 w' w.heap.size (fun k_ => some k_ ≠ (s_.2.1 : Value).ownBlock ∧ some k_ ≠ (.slice Ao12 t473.length co12 : Value).ownBlock ∧ some k_ ≠ (.slice Ao14 t477.length co14 : Value).ownBlock ∧ some k_ ≠ (.slice Ao42 x484000_1.length co42 : Value).ownBlock ∧ some k_ ≠ (.slice Ao43 x484002_1.length co43 : Value).ownBlock ∧ k_ ≠ gb481 ∧ k_ ≠ gb483 ∧ k_ ≠ s_.2.2) s_.1 t485) ∧ (Kd.R k53 53 w' w.heap.size (fun k_ => some k_ ≠ (.slice Ao14 t477.length co14 : Value).ownBlock ∧ some k_ ≠ (.slice Ao43 x484002_1.length co43 : Value).ownBlock) s_.2.1 t489) ∧ (Kd.N k66 66 w' w.heap.size (fun k_ => some k_ ≠ (s_.1 : Value).ownBlock ∧ some k_ ≠ (s_.2.1 : Value).ownBlock ∧ some k_ ≠ (.slice Ao14 t477.length co14 : Value).ownBlock ∧ some k_ ≠ (.slice Ao43 x484002_1.length co43 : Value).ownBlock ∧ k_ ≠ gb481 ∧ k_ ≠ gb483 ∧ k_ ≠ s_.2.2) (.slice Ao12 t473.length co12) t473) ∧ (Kd.R k53 53 w' w.heap.size (fun k_ => some k_ ≠ (s_.2.1 : Value).ownBlock) (.slice Ao14 t477.length co14) t477) ∧ (Kd.N k66 66 w' w.heap.size (fun k_ => some k_ ≠ (s_.1 : Value).ownBlock ∧ some k_ ≠ (s_.2.1 : Value).ownBlock ∧ some k_ ≠ (.slice Ao14 t477.length co14 : Value).ownBlock ∧ some k_ ≠ (.slice Ao43 x484002_1.length co43 : Value).ownBlock ∧ k_ ≠ gb481 ∧ k_ ≠ gb483 ∧ k_ ≠ s_.2.2) (.slice Ao42 x484000_1.length co42) x484000_1) ∧ (Kd.R k53 53 w' w.heap.size (fun k_ => some k_ ≠ (s_.2.1 : Value).ownBlock) (.slice Ao43 x484002_1.length co43) x484002_1) ∧ (w'.heap[gb481]? = some (.cells #[.slice Ao12 t473.length co12, .int .i64 t476, .slice Ao14 t477.length co14] 25 (0, 0))) ∧ (w'.heap[gb483]? = some (.cells #[.slice Ao42 x484000_1.length co42, .int .i64 x484001_1, .slice Ao43 x484002_1.length co43] 25 (0, 0))) ∧ (w'.heap[s_.2.2]? = some (.cells #[.slice none 0 0, .int .i64 0, .slice none 0 0] 25 (0, 0))) ∧ (w.heap.size ≤ s_.2.2) ∧ (w.heap.size ≤ s_.2.2) ∧ (gb481 ≠ s_.2.2) ∧ (s_.2.2 ≠ gb481) ∧ (gb483 ≠ s_.2.2) ∧ (s_.2.2 ≠ gb483) ∧ (Below w.heap.size w w')) ?_ ?_
       rotate_left
       · intro hCont
         refine two_ (i := 9) (j := 13) (Ni := some 52) (Nj := some 12) #[true, true, true, true, true, true, true, true, true, true, false, false, false, false, false, false] #[true, true, true, true, true, true, true, true, true, false, false, false, false, true, false, false] rfl rfl rfl rfl (two_of HT_.out (by kernel_rfl)) (by decide) (by decide) (fun K hK => ?_) (fun K hK => ?_)
         · skip
           refine goes_ Tryz.func8 (by kernel_rfl) rfl #[.agg #[.slice Ao42 x484000_1.length co42, .int .i64 x484001_1, .slice Ao43 x484002_1.length co43], .int .i64 (wrap64 (1 + (wrap64 (Int.tmod (IntKind.u64.wrap (rd l2 x11_1)) 3))))] (by rfl) rfl rfl hL_ ?_
           with_reducible refine (answer_Put.calls kj17 _ _ x484000_1 x484001_1 _ _ x484002_1 (wrap64 (1 + (wrap64 (Int.tmod (IntKind.u64.wrap (rd l2 x11_1)) 3)))) t485 t488 t489 t492 _ ?side1 ?side2 ?side3 ?side4 A23.out (by first | exact hG | exact GOK.below hG hC_)).mono ?_
           (case side1 => repeat (first | exact (Kd.N_reads' HO_484000.out).2.2 | (with_reducible refine Kd.C_alloc ?_ _) | (with_reducible refine Kd.C_drewN ?_ _) | (with_reducible refine Kd.C_drew ?_)))
           (case side2 => exact (Kd.N_reads' HO_484000.out).2.1)
           (case side3 => exact cC_ (Kd.R_reads' HO_484002.out).2.2)
           (case side4 => exact (Kd.R_reads' HO_484002.out).2.1)
           rintro e w45 ⟨v486, v490, rfl, ho0, ho1, hb⟩
           refine ⟨_, rfl, ?_⟩
           have HO487 := a_ (Kd.N_lower (Kd.N_mono (ok' := fun k_ => some k_ ≠ (v490 : Value).ownBlock ∧ some k_ ≠ (.slice Ao12 t473.length co12 : Value).ownBlock ∧ some k_ ≠ (.slice Ao14 t477.length co14 : Value).ownBlock ∧ some k_ ≠ (.slice Ao42 x484000_1.length co42 : Value).ownBlock ∧ some k_ ≠ (.slice Ao43 x484002_1.length co43 : Value).ownBlock ∧ k_ ≠ gb481 ∧ k_ ≠ gb483) (Kd.S_N (Kd.S_bound (Kd.S_apart' ho0 (Kd.R_typed ho1) (by decide)))) (fun k_ hk_ => ⟨hk_.1.2, (Kd.fresh' (Kd.N_lt (hN_ HO_482000.out)) k_ hk_.2.1), (Kd.fresh' (Kd.R_lt (hR_ HO_482002.out)) k_ hk_.2.1), (Kd.fresh' (Kd.N_lt (hN_ HO_484000.out)) k_ hk_.2.1), (Kd.fresh' (Kd.R_lt (hR_ HO_484002.out)) k_ hk_.2.1), (Kd.freshB (g := gb481) (o := .cells #[.slice Ao12 t473.length co12, .int .i64 t476, .slice Ao14 t477.length co14] 25 (0, 0)) (hK_ BK481.out) k_ hk_.2.1), (Kd.freshB (g := gb483) (o := .cells #[.slice Ao42 x484000_1.length co42, .int .i64 x484001_1, .slice Ao43 x484002_1.length co43] 25 (0, 0)) (hK_ BK483.out) k_ hk_.2.1)⟩)) (below_size hC_))
           replace HO_482000 := a_ (Kd.N_mono (Kd.N_told (Kd.N_told (Kd.N_old (hN_ HO_482000.out) hb) (Kd.N_base (Kd.R_N (Kd.S_R ho0)))) (Kd.R_base ho1)) (fun _ h_ => h_.1))
           replace HO_484000 := a_ (Kd.N_mono (Kd.N_told (Kd.N_told (Kd.N_old (hN_ HO_484000.out) hb) (Kd.N_base (Kd.R_N (Kd.S_R ho0)))) (Kd.R_base ho1)) (fun _ h_ => h_.1))
           have HO491 := a_ (Kd.R_lower (Kd.R_new' (Kd.R_new' ho1 (Kd.R_lt (hR_ HO_482002.out))) (Kd.R_lt (hR_ HO_484002.out))) (below_size hC_))
           replace HO_482002 := a_ (Kd.R_elder' (hR_ HO_482002.out) (Kd.R_base ho1) hb)
           replace HO_484002 := a_ (Kd.R_elder' (hR_ HO_484002.out) (Kd.R_base ho1) hb)
           replace BK481 := a_ (bB_ BK481.out hb)
           replace BK483 := a_ (bB_ BK483.out hb)
           replace HB := a_ (below_step hC_ hb)
           (try clear hb)
           (try clear hb2)
           (try clear hk)
           (try clear hi)
           (try clear ho0)
           (try clear ho1)
           refine hK.out _ _ ⟨(blk_cell BK483.out 0).trans rfl, (blk_cell BK483.out 1).trans rfl, (blk_cell BK483.out 2).trans rfl, (cl_ HB.out hw484_0)⟩ (fun hHeld => ?_)
           clear hK K
           refine norm_ (a' := ?_) ?_ ?_
           rotate_left
           · show Act.put _ (some 52) _ = _
             simp only [Act.put, List.setIfInBounds_toArray, List.set_cons_zero, List.set_cons_succ, i64_w, i32_w]
             rfl
           refine pB_ 10 42 HT_.out ?_
           refine pB_ 11 53 HT_.out ?_
           refine pB_ 12 54 HT_.out ?_
           refine one_ (i := 13) (N := some 12) #[true, true, true, true, true, true, true, true, true, true, true, true, true, true, false, false] rfl rfl (one_of HT_.out (by kernel_rfl)) (by decide) (fun K hK => ?_)
           refine box_step ?hg (N := 12) ?hd (cs := #[.slice none 0 0, .int .i64 0, .slice none 0 0]) (t := 25) ?hr ?_; (case hd => rfl); (case hg => rfl); (case hr => first | (go_simp; done) | (go_simp; rfl))
           intro gb493 hg w46 hbox hb
           replace HO_482000 := a_ (Kd.N_below (Kd.N_elderB (hN_ HO_482000.out) gb493 (Nat.le_of_eq hg.symm)) hb)
           replace HO_482002 := a_ (Kd.R_below (hR_ HO_482002.out) hb)
           replace HO_484000 := a_ (Kd.N_below (Kd.N_elderB (hN_ HO_484000.out) gb493 (Nat.le_of_eq hg.symm)) hb)
           replace HO_484002 := a_ (Kd.R_below (hR_ HO_484002.out) hb)
           replace HO487 := a_ (Kd.N_below (Kd.N_elderB (hN_ HO487.out) gb493 (Nat.le_of_eq hg.symm)) hb)
           replace HO491 := a_ (Kd.R_below (hR_ HO491.out) hb)
           have BK493 := a_ (hbox)
           have GW493 := a_ ((gE_ hg : w.heap.size ≤ gb493))
           have GE493 := a_ ((gE_ hg : w.heap.size ≤ gb493))
           replace HB := a_ (below_step hC_ hb)
           have NB481_493 := a_ ((bL_ BK481.out hg : gb481 ≠ gb493))
           have NB493_481 := a_ ((bG_ BK481.out hg : gb493 ≠ gb481))
           replace BK481 := a_ (bB_ BK481.out hb)
           have NB483_493 := a_ ((bL_ BK483.out hg : gb483 ≠ gb493))
           have NB493_483 := a_ ((bG_ BK483.out hg : gb493 ≠ gb483))
           replace BK483 := a_ (bB_ BK483.out hb)
           clear hb hbox hg
           refine hK.out _ _ ⟨(blk_cell BK483.out 0).trans rfl, (blk_cell BK483.out 1).trans rfl, (blk_cell BK483.out 2).trans rfl, (cl_ HB.out hw484_0)⟩ (fun hHeld => ?_)
           clear hK K
           refine norm_ (a' := ?_) ?_ ?_
           rotate_left
           · show Act.put _ (some 12) _ = _
             simp only [Act.put, List.setIfInBounds_toArray, List.set_cons_zero, List.set_cons_succ, i64_w, i32_w]
             rfl
           exact norm_ (by simp only [putAll, Act.put, List.setIfInBounds_toArray, List.set_cons_zero, List.set_cons_succ]) (hCont (v486, v490, gb493) _ ⟨hHeld, (by (with_reducible repeat (first | apply Kd.N_alloc | apply Kd.N_drewN | apply Kd.N_drew)); exact Kd.N_mono HO487.out (fun _ hk => ⟨hk.1.1, ⟨hk.1.2.1, ⟨hk.1.2.2.1, ⟨hk.1.2.2.2.1, ⟨hk.1.2.2.2.2.1, ⟨hk.1.2.2.2.2.2.1, ⟨hk.1.2.2.2.2.2.2, hk.2⟩⟩⟩⟩⟩⟩⟩)), (by (with_reducible repeat (first | apply Kd.R_alloc | apply Kd.R_drewN | apply Kd.R_drew)); exact Kd.R_mono HO491.out (fun _ hk => ⟨hk.1.2, hk.2⟩)), (by (with_reducible repeat (first | apply Kd.N_alloc | apply Kd.N_drewN | apply Kd.N_drew)); exact Kd.N_mono HO_482000.out (fun _ hk => ⟨hk.1.1.2, ⟨hk.1.2, ⟨hk.1.1.1.1, ⟨hk.1.1.1.2.1, ⟨hk.1.1.1.2.2.1, ⟨hk.1.1.1.2.2.2, hk.2⟩⟩⟩⟩⟩⟩)), (by (with_reducible repeat (first | apply Kd.R_alloc | apply Kd.R_drewN | apply Kd.R_drew)); exact Kd.R_mono HO_482002.out (fun _ hk => hk.2)), (by (with_reducible repeat (first | apply Kd.N_alloc | apply Kd.N_drewN | apply Kd.N_drew)); exact Kd.N_mono HO_484000.out (fun _ hk => ⟨hk.1.1.2, ⟨hk.1.2, ⟨hk.1.1.1.1, ⟨hk.1.1.1.2.1, ⟨hk.1.1.1.2.2.1, ⟨hk.1.1.1.2.2.2, hk.2⟩⟩⟩⟩⟩⟩)), (by (with_reducible repeat (first | apply Kd.R_alloc | apply Kd.R_drewN | apply Kd.R_drew)); exact Kd.R_mono HO_484002.out (fun _ hk => hk.2)), (hK_ BK481.out), (hK_ BK483.out), (hK_ BK493.out), GW493.out, GE493.out, NB481_493.out, NB493_481.out, NB483_493.out, NB493_483.out, hC_⟩)
         · skip
           refine box_step ?hg (N := 12) ?hd (cs := #[.slice none 0 0, .int .i64 0, .slice none 0 0]) (t := 25) ?hr ?_; (case hd => rfl); (case hg => rfl); (case hr => first | (go_simp; done) | (go_simp; rfl))
           intro gb493 hg w45 hbox hb
           replace HO_482000 := a_ (Kd.N_below (Kd.N_elderB (hN_ HO_482000.out) gb493 (Nat.le_of_eq hg.symm)) hb)
           replace HO_482002 := a_ (Kd.R_below (hR_ HO_482002.out) hb)
           replace HO_484000 := a_ (Kd.N_below (Kd.N_elderB (hN_ HO_484000.out) gb493 (Nat.le_of_eq hg.symm)) hb)
           replace HO_484002 := a_ (Kd.R_below (hR_ HO_484002.out) hb)
           have BK493 := a_ (hbox)
           have GW493 := a_ ((gE_ hg : w.heap.size ≤ gb493))
           have GE493 := a_ ((gE_ hg : w.heap.size ≤ gb493))
           replace HB := a_ (below_step hC_ hb)
           have NB481_493 := a_ ((bL_ BK481.out hg : gb481 ≠ gb493))
           have NB493_481 := a_ ((bG_ BK481.out hg : gb493 ≠ gb481))
           replace BK481 := a_ (bB_ BK481.out hb)
           have NB483_493 := a_ ((bL_ BK483.out hg : gb483 ≠ gb493))
           have NB493_483 := a_ ((bG_ BK483.out hg : gb493 ≠ gb483))
           replace BK483 := a_ (bB_ BK483.out hb)
           clear hb hbox hg
           refine hK.out _ _ ⟨(blk_cell BK483.out 0).trans rfl, (blk_cell BK483.out 1).trans rfl, (blk_cell BK483.out 2).trans rfl, (cl_ HB.out hw484_0)⟩ (fun hHeld => ?_)
           clear hK K
           refine norm_ (a' := ?_) ?_ ?_
           rotate_left
           · show Act.put _ (some 12) _ = _
             simp only [Act.put, List.setIfInBounds_toArray, List.set_cons_zero, List.set_cons_succ, i64_w, i32_w]
             rfl
           refine one_ (i := 9) (N := some 52) #[true, true, true, true, true, true, true, true, true, true, false, false, false, true, false, false] rfl rfl (one_of HT_.out (by kernel_rfl)) (by decide) (fun K hK => ?_)
           refine goes_ Tryz.func8 (by kernel_rfl) rfl #[.agg #[.slice Ao42 x484000_1.length co42, .int .i64 x484001_1, .slice Ao43 x484002_1.length co43], .int .i64 (wrap64 (1 + (wrap64 (Int.tmod (IntKind.u64.wrap (rd l2 x11_1)) 3))))] (by rfl) rfl rfl hL_ ?_
           with_reducible refine (answer_Put.calls kj17 _ _ x484000_1 x484001_1 _ _ x484002_1 (wrap64 (1 + (wrap64 (Int.tmod (IntKind.u64.wrap (rd l2 x11_1)) 3)))) t485 t488 t489 t492 _ ?side1 ?side2 ?side3 ?side4 A23.out (by first | exact hG | exact GOK.below hG hC_)).mono ?_
           (case side1 => repeat (first | exact (Kd.N_reads' HO_484000.out).2.2 | (with_reducible refine Kd.C_alloc ?_ _) | (with_reducible refine Kd.C_drewN ?_ _) | (with_reducible refine Kd.C_drew ?_)))
           (case side2 => exact (Kd.N_reads' HO_484000.out).2.1)
           (case side3 => exact cC_ (Kd.R_reads' HO_484002.out).2.2)
           (case side4 => exact (Kd.R_reads' HO_484002.out).2.1)
           rintro e w46 ⟨v486, v490, rfl, ho0, ho1, hb⟩
           refine ⟨_, rfl, ?_⟩
           have HO487 := a_ (Kd.N_lower (Kd.N_mono (ok' := fun k_ => some k_ ≠ (v490 : Value).ownBlock ∧ some k_ ≠ (.slice Ao12 t473.length co12 : Value).ownBlock ∧ some k_ ≠ (.slice Ao14 t477.length co14 : Value).ownBlock ∧ some k_ ≠ (.slice Ao42 x484000_1.length co42 : Value).ownBlock ∧ some k_ ≠ (.slice Ao43 x484002_1.length co43 : Value).ownBlock ∧ k_ ≠ gb481 ∧ k_ ≠ gb483 ∧ k_ ≠ gb493) (Kd.S_N (Kd.S_bound (Kd.S_apart' ho0 (Kd.R_typed ho1) (by decide)))) (fun k_ hk_ => ⟨hk_.1.2, (Kd.fresh' (Kd.N_lt (hN_ HO_482000.out)) k_ hk_.2.1), (Kd.fresh' (Kd.R_lt (hR_ HO_482002.out)) k_ hk_.2.1), (Kd.fresh' (Kd.N_lt (hN_ HO_484000.out)) k_ hk_.2.1), (Kd.fresh' (Kd.R_lt (hR_ HO_484002.out)) k_ hk_.2.1), (Kd.freshB (g := gb481) (o := .cells #[.slice Ao12 t473.length co12, .int .i64 t476, .slice Ao14 t477.length co14] 25 (0, 0)) (hK_ BK481.out) k_ hk_.2.1), (Kd.freshB (g := gb483) (o := .cells #[.slice Ao42 x484000_1.length co42, .int .i64 x484001_1, .slice Ao43 x484002_1.length co43] 25 (0, 0)) (hK_ BK483.out) k_ hk_.2.1), (Kd.freshB (g := gb493) (o := .cells #[.slice none 0 0, .int .i64 0, .slice none 0 0] 25 (0, 0)) (hK_ BK493.out) k_ hk_.2.1)⟩)) (below_size hC_))
           replace HO_482000 := a_ (Kd.N_mono (Kd.N_told (Kd.N_told (Kd.N_old (hN_ HO_482000.out) hb) (Kd.N_base (Kd.R_N (Kd.S_R ho0)))) (Kd.R_base ho1)) (fun _ h_ => h_.1))
           replace HO_484000 := a_ (Kd.N_mono (Kd.N_told (Kd.N_told (Kd.N_old (hN_ HO_484000.out) hb) (Kd.N_base (Kd.R_N (Kd.S_R ho0)))) (Kd.R_base ho1)) (fun _ h_ => h_.1))
           have HO491 := a_ (Kd.R_lower (Kd.R_new' (Kd.R_new' ho1 (Kd.R_lt (hR_ HO_482002.out))) (Kd.R_lt (hR_ HO_484002.out))) (below_size hC_))
           replace HO_482002 := a_ (Kd.R_elder' (hR_ HO_482002.out) (Kd.R_base ho1) hb)
           replace HO_484002 := a_ (Kd.R_elder' (hR_ HO_484002.out) (Kd.R_base ho1) hb)
           replace BK481 := a_ (bB_ BK481.out hb)
           replace BK483 := a_ (bB_ BK483.out hb)
           replace BK493 := a_ (bB_ BK493.out hb)
           replace HB := a_ (below_step hC_ hb)
           (try clear hb)
           (try clear hb2)
           (try clear hk)
           (try clear hi)
           (try clear ho0)
           (try clear ho1)
           refine hK.out _ _ ⟨(blk_cell BK483.out 0).trans rfl, (blk_cell BK483.out 1).trans rfl, (blk_cell BK483.out 2).trans rfl, (cl_ HB.out hw484_0)⟩ (fun hHeld => ?_)
           clear hK K
           refine norm_ (a' := ?_) ?_ ?_
           rotate_left
           · show Act.put _ (some 52) _ = _
             simp only [Act.put, List.setIfInBounds_toArray, List.set_cons_zero, List.set_cons_succ, i64_w, i32_w]
             rfl
           refine pB_ 10 42 HT_.out ?_
           refine pB_ 11 53 HT_.out ?_
           refine pB_ 12 54 HT_.out ?_
           exact norm_ (by simp only [putAll, Act.put, List.setIfInBounds_toArray, List.set_cons_zero, List.set_cons_succ]) (hCont (v486, v490, gb493) _ ⟨hHeld, (hN_ HO487.out), (by (with_reducible repeat (first | apply Kd.R_alloc | apply Kd.R_drewN | apply Kd.R_drew)); exact Kd.R_mono HO491.out (fun _ hk => ⟨hk.1.2, hk.2⟩)), (by (with_reducible repeat (first | apply Kd.N_alloc | apply Kd.N_drewN | apply Kd.N_drew)); exact Kd.N_mono HO_482000.out (fun _ hk => ⟨hk.1.2, ⟨hk.2, ⟨hk.1.1.1.1, ⟨hk.1.1.1.2.1, ⟨hk.1.1.1.2.2.1, ⟨hk.1.1.1.2.2.2, hk.1.1.2⟩⟩⟩⟩⟩⟩)), (by (with_reducible repeat (first | apply Kd.R_alloc | apply Kd.R_drewN | apply Kd.R_drew)); exact Kd.R_mono HO_482002.out (fun _ hk => hk.2)), (by (with_reducible repeat (first | apply Kd.N_alloc | apply Kd.N_drewN | apply Kd.N_drew)); exact Kd.N_mono HO_484000.out (fun _ hk => ⟨hk.1.2, ⟨hk.2, ⟨hk.1.1.1.1, ⟨hk.1.1.1.2.1, ⟨hk.1.1.1.2.2.1, ⟨hk.1.1.1.2.2.2, hk.1.1.2⟩⟩⟩⟩⟩⟩)), (by (with_reducible repeat (first | apply Kd.R_alloc | apply Kd.R_drewN | apply Kd.R_drew)); exact Kd.R_mono HO_484002.out (fun _ hk => hk.2)), (hK_ BK481.out), (hK_ BK483.out), (hK_ BK493.out), GW493.out, GE493.out, NB481_493.out, NB493_481.out, NB483_493.out, NB493_483.out, hC_⟩)
       rintro ⟨v486, v490, gb493⟩ w47 ⟨hS_, h0_, h1_, h2_, h3_, h4_, h5_, h6_, h7_, h8_, h9_, h10_, h11_, h12_, h13_, h14_, h15_⟩
       have HO487 : Aside0 (Kd.N k66 66 w47 w.heap.size (fun k_ => some k_ ≠ (v490 : Value).ownBlock ∧ some k_ ≠ (.slice Ao12 t473.length co12 : Value).ownBlock ∧ some k_ ≠ (.slice Ao14 t477.length co14 : Value).ownBlock ∧ some k_ ≠ (.slice Ao42 x484000_1.length co42 : Value).ownBlock ∧ some k_ ≠ (.slice Ao43 x484002_1.length co43 : Value).ownBlock ∧ k_ ≠ gb481 ∧ k_ ≠ gb483 ∧ k_ ≠ gb493) v486 t485) := ⟨h0_⟩
       have HO491 : Aside0 (Kd.R k53 53 w47 w.heap.size (fun k_ => some k_ ≠ (.slice Ao14 t477.length co14 : Value).ownBlock ∧ some k_ ≠ (.slice Ao43 x484002_1.length co43 : Value).ownBlock) v490 t489) := ⟨h1_⟩
       replace HO_482000 : Aside0 (Kd.N k66 66 w47 w.heap.size (fun k_ => some k_ ≠ (v486 : Value).ownBlock ∧ some k_ ≠ (v490 : Value).ownBlock ∧ some k_ ≠ (.slice Ao14 t477.length co14 : Value).ownBlock ∧ some k_ ≠ (.slice Ao43 x484002_1.length co43 : Value).ownBlock ∧ k_ ≠ gb481 ∧ k_ ≠ gb483 ∧ k_ ≠ gb493) (.slice Ao12 t473.length co12) t473) := ⟨h2_⟩
       replace HO_482002 : Aside0 (Kd.R k53 53 w47 w.heap.size (fun k_ => some k_ ≠ (v490 : Value).ownBlock) (.slice Ao14 t477.length co14) t477) := ⟨h3_⟩
       replace HO_484000 : Aside0 (Kd.N k66 66 w47 w.heap.size (fun k_ => some k_ ≠ (v486 : Value).ownBlock ∧ some k_ ≠ (v490 : Value).ownBlock ∧ some k_ ≠ (.slice Ao14 t477.length co14 : Value).ownBlock ∧ some k_ ≠ (.slice Ao43 x484002_1.length co43 : Value).ownBlock ∧ k_ ≠ gb481 ∧ k_ ≠ gb483 ∧ k_ ≠ gb493) (.slice Ao42 x484000_1.length co42) x484000_1) := ⟨h4_⟩
       replace HO_484002 : Aside0 (Kd.R k53 53 w47 w.heap.size (fun k_ => some k_ ≠ (v490 : Value).ownBlock) (.slice Ao43 x484002_1.length co43) x484002_1) := ⟨h5_⟩
       replace BK481 : Aside0 (w47.heap[gb481]? = some (.cells #[.slice Ao12 t473.length co12, .int .i64 t476, .slice Ao14 t477.length co14] 25 (0, 0))) := ⟨h6_⟩
       replace BK483 : Aside0 (w47.heap[gb483]? = some (.cells #[.slice Ao42 x484000_1.length co42, .int .i64 x484001_1, .slice Ao43 x484002_1.length co43] 25 (0, 0))) := ⟨h7_⟩
       have BK493 : Aside0 (w47.heap[gb493]? = some (.cells #[.slice none 0 0, .int .i64 0, .slice none 0 0] 25 (0, 0))) := ⟨h8_⟩
       have GW493 : Aside0 (w.heap.size ≤ gb493) := ⟨h9_⟩
       have GE493 : Aside0 (w.heap.size ≤ gb493) := ⟨h10_⟩
       have NB481_493 : Aside0 (gb481 ≠ gb493) := ⟨h11_⟩
       have NB493_481 : Aside0 (gb493 ≠ gb481) := ⟨h12_⟩
       have NB483_493 : Aside0 (gb483 ≠ gb493) := ⟨h13_⟩
       have NB493_483 : Aside0 (gb493 ≠ gb483) := ⟨h14_⟩
       replace HB : Aside0 (Below w.heap.size w w47) := ⟨h15_⟩
       clear h0_ h1_ h2_ h3_ h4_ h5_ h6_ h7_ h8_ h9_ h10_ h11_ h12_ h13_ h14_ h15_
       have hHeld : w47.cell? ⟨gb483, 0, none⟩ = some (.slice Ao42 x484000_1.length co42) ∧ w47.cell? ⟨gb483, 1, none⟩ = some (.int .i64 x484001_1) ∧ w47.cell? ⟨gb483, 2, none⟩ = some (.slice Ao43 x484002_1.length co43) ∧ w47.cell? (ad484.add (x11_1).toNat) = some (.int .i64 (rd l2 x11_1)) := hS_
       obtain ⟨Ao48, co48, eo48⟩ := Kd.N_slice HO487.out
       (first | subst eo48 | (injection eo48 with f1_ f2_ f3_; have f4_ := f1_.symm; have f5_ := f3_.symm; clear f1_ f2_ f3_; subst f4_; subst f5_))
       obtain ⟨Ao51, co51, eo51⟩ := Kd.R_slice HO491.out
       (first | subst eo51 | (injection eo51 with f1_ f2_ f3_; have f4_ := f1_.symm; have f5_ := f3_.symm; clear f1_ f2_ f3_; subst f4_; subst f5_))
       refine norm_ (a' := ?_) ?_ ?_
       rotate_left
       · simp only [putAll, Act.put, List.setIfInBounds_toArray, List.set_cons_zero, List.set_cons_succ]
         rfl
       refine one_ (i := 14) (N := none) #[true, true, true, true, true, true, true, true, true, true, true, true, true, true, true, false] rfl rfl (one_of HT_.out (by kernel_rfl)) (by decide) (fun K hK => ?_)
       have hs49 := bc0_ BK493.out
       have hfs49 := blk_frozen BK493.out 0
       have hns49_0 := NB481_493.out
       have hns49_1 := NB483_493.out
       have hms49_0 := NB493_481.out
       have hms49_1 := NB493_483.out
       have hs50 := bc1_ BK493.out
       have hfs50 := blk_frozen BK493.out 1
       have hns50_0 := NB481_493.out
       have hns50_1 := NB483_493.out
       have hms50_0 := NB493_481.out
       have hms50_1 := NB493_483.out
       have hs52 := bc2_ BK493.out
       have hfs52 := blk_frozen BK493.out 2
       have hns52_0 := NB481_493.out
       have hns52_1 := NB483_493.out
       have hms52_0 := NB493_481.out
       have hms52_1 := NB493_483.out
       refine skip_ (w1 := ?_) (by rfl) rfl ?_ ?_
       rotate_left
       · go_simp
         rfl
       refine hK.out _ _ ⟨((cell_far (p := ⟨gb493, _, none⟩) NB483_493.out _).trans (((cell_far (p := ⟨gb493, _, none⟩) NB483_493.out _).trans (((cell_far (p := ⟨gb493, _, none⟩) NB483_493.out _).trans (hHeld.1)))))), ((cell_far (p := ⟨gb493, _, none⟩) NB483_493.out _).trans (((cell_far (p := ⟨gb493, _, none⟩) NB483_493.out _).trans (((cell_far (p := ⟨gb493, _, none⟩) NB483_493.out _).trans (hHeld.2.1)))))), ((cell_far (p := ⟨gb493, _, none⟩) NB483_493.out _).trans (((cell_far (p := ⟨gb493, _, none⟩) NB483_493.out _).trans (((cell_far (p := ⟨gb493, _, none⟩) NB483_493.out _).trans (hHeld.2.2.1)))))), ((cell_far (p := ⟨gb493, _, none⟩) (by first | exact Nat.ne_of_lt (Nat.lt_of_lt_of_le (by have := World.block_lt_of_cell? _ _ hw484_0; first | rwa [add_block] at this | exact this) GW493.out) | (rw [add_block]; exact Nat.ne_of_lt (Nat.lt_of_lt_of_le (by have := World.block_lt_of_cell? _ _ hw484_0; first | rwa [add_block] at this | exact this) GW493.out)) | (show (Addr.add _ _).block ≠ _; rw [add_block]; exact Nat.ne_of_lt (Nat.lt_of_lt_of_le (by have := World.block_lt_of_cell? _ _ hw484_0; first | rwa [add_block] at this | exact this) GW493.out)) | (dsimp only; exact Nat.ne_of_lt (Nat.lt_of_lt_of_le (by have := World.block_lt_of_cell? _ _ hw484_0; first | rwa [add_block] at this | exact this) GW493.out))) _).trans (((cell_far (p := ⟨gb493, _, none⟩) (by first | exact Nat.ne_of_lt (Nat.lt_of_lt_of_le (by have := World.block_lt_of_cell? _ _ hw484_0; first | rwa [add_block] at this | exact this) GW493.out) | (rw [add_block]; exact Nat.ne_of_lt (Nat.lt_of_lt_of_le (by have := World.block_lt_of_cell? _ _ hw484_0; first | rwa [add_block] at this | exact this) GW493.out)) | (show (Addr.add _ _).block ≠ _; rw [add_block]; exact Nat.ne_of_lt (Nat.lt_of_lt_of_le (by have := World.block_lt_of_cell? _ _ hw484_0; first | rwa [add_block] at this | exact this) GW493.out)) | (dsimp only; exact Nat.ne_of_lt (Nat.lt_of_lt_of_le (by have := World.block_lt_of_cell? _ _ hw484_0; first | rwa [add_block] at this | exact this) GW493.out))) _).trans (((cell_far (p := ⟨gb493, _, none⟩) (by first | exact Nat.ne_of_lt (Nat.lt_of_lt_of_le (by have := World.block_lt_of_cell? _ _ hw484_0; first | rwa [add_block] at this | exact this) GW493.out) | (rw [add_block]; exact Nat.ne_of_lt (Nat.lt_of_lt_of_le (by have := World.block_lt_of_cell? _ _ hw484_0; first | rwa [add_block] at this | exact this) GW493.out)) | (show (Addr.add _ _).block ≠ _; rw [add_block]; exact Nat.ne_of_lt (Nat.lt_of_lt_of_le (by have := World.block_lt_of_cell? _ _ hw484_0; first | rwa [add_block] at this | exact this) GW493.out)) | (dsimp only; exact Nat.ne_of_lt (Nat.lt_of_lt_of_le (by have := World.block_lt_of_cell? _ _ hw484_0; first | rwa [add_block] at this | exact this) GW493.out))) _).trans (hHeld.2.2.2))))))⟩ (fun hHeld => ?_)
       clear hK K
       refine pB_ 15 13 HT_.out ?_
       refine done_ (done_of HT_.out (by kernel_rfl)) ?_
       try go_wp2_with (first | ((with_reducible refine gate_callee (f := 13) rfl ?_); refine goesL_ _ rfl rfl Tryz.func13 (by kernel_rfl) rfl #[.int .i64 t492] rfl hL_ ?_; (with_reducible refine (sleuthlaw0_Num.calls t492 t494 _ A24.out).mono ?_); rintro e w' ⟨rfl, ⟨nd, rfl⟩⟩; refine ⟨_, rfl, ?_⟩))
       go_meet
       case rel => exact ⟨_, (x10_1), (x484000_1), (x484001_1), (x484002_1), (.slice Ao42 x484000_1.length co42), (.slice Ao43 x484002_1.length co43), hW_, H', ⟨by have := HK1.out; have := HJ17.out; first | omega | exact Nat.le_refl _⟩, ⟨by (with_reducible repeat (first | apply Kd.N_alloc | apply Kd.N_drewN | apply Kd.N_drew)); exact Kd.N_mono (nF_ (nF_ (nF_ (Kd.N_mono HO_482000.out (fun k_ hk => (⟨hk, hk.2.2.2.2.2.2⟩ : _ ∧ k_ ≠ gb493)))))) (fun _ hk => ⟨hk.1.2.2.1, ⟨hk.1.2.2.2.1, ⟨hk.1.2.2.2.2.1, hk.1.2.2.2.2.2.1⟩⟩⟩)⟩, ⟨hR_ (Kd.R_mono (rF_ (rF_ (rF_ (Kd.R_types HO_482002.out BK493.out (by decide))))) (fun _ hk => trivial))⟩, ⟨by (with_reducible repeat (first | apply Kd.N_alloc | apply Kd.N_drewN | apply Kd.N_drew)); exact Kd.N_mono (nF_ (nF_ (nF_ (Kd.N_mono HO_484000.out (fun k_ hk => (⟨hk, hk.2.2.2.2.2.2⟩ : _ ∧ k_ ≠ gb493)))))) (fun _ hk => ⟨hk.1.2.2.1, ⟨hk.1.2.2.2.1, ⟨hk.1.2.2.2.2.1, hk.1.2.2.2.2.2.1⟩⟩⟩)⟩, ⟨hR_ (Kd.R_mono (rF_ (rF_ (rF_ (Kd.R_types HO_484002.out BK493.out (by decide))))) (fun _ hk => trivial))⟩, ⟨(bF_ (bF_ (bF_ (hK_ BK481.out) NB481_493.out) NB481_493.out) NB481_493.out)⟩, ⟨(bF_ (bF_ (bF_ (hK_ BK483.out) NB483_493.out) NB483_493.out) NB483_493.out)⟩, ⟨hC_⟩⟩
      rw [if_pos c25] at H
      have c25b0 : (t494 == 0) = true := beq_iff_eq.mpr c25
      have c25b1 : (t494 != 0) = false := bne_eq_false_iff_eq.mpr c25
      clear c25
      have H' := a_ H
      clear H
      obtain ⟨Ao26, co26, eo26⟩ := Kd.N_slice HO_484000.out
      subst eo26
      obtain ⟨Ao27, co27, eo27⟩ := Kd.R_slice HO_484002.out
      subst eo27
      try go_wp2
      replace HO_482000 := a_ (Kd.N_drew HO_482000.out)
      replace HO_482002 := a_ (Kd.R_drew HO_482002.out)
      replace HO_484000 := a_ (Kd.N_drew HO_484000.out)
      replace HO_484002 := a_ (Kd.R_drew HO_484002.out)
      replace BK481 := a_ (blk_drew BK481.out)
      replace BK483 := a_ (blk_drew BK483.out)
      replace HB := a_ (below_drew1 HB.out)
      have p484 : 0 ≤ (x11_1 : Int) := of_decide_eq_true hA_
      have q484 : x11_1 < (l2.length : Int) := of_decide_eq_true hA_
      obtain ⟨ad484, e484, hx484_0⟩ := Kd.at_int HR2.out x11_1 p484 q484
      have hw484_0 := hx484_0
      cases e484
      replace hx484_0 := cl_ HB.out hx484_0
      replace p484 := eq_true p484
      replace q484 := eq_true q484
      refine start_ (n := 16) (S := fun w' => w'.cell? ⟨gb483, 0, none⟩ = some (.slice Ao26 x484000_1.length co26) ∧ w'.cell? ⟨gb483, 1, none⟩ = some (.int .i64 x484001_1) ∧ w'.cell? ⟨gb483, 2, none⟩ = some (.slice Ao27 x484002_1.length co27) ∧ w'.cell? (ad484.add (x11_1).toNat) = some (.int .i64 (rd l2 x11_1))) (ds := []) #[false, false, false, false, false, false, false, false, false, false, false, false, false, false, false, false] (by kernel_rfl) rfl rfl ⟨(blk_cell BK483.out 0).trans rfl, (blk_cell BK483.out 1).trans rfl, (blk_cell BK483.out 2).trans rfl, (cl_ HB.out hw484_0)⟩ (fun hHeld => ?_); refine with_tabW sleuthlaw22_AnswerRow.tab11 sleuthlaw22_AnswerRow.bits11 (fun HT_ HW_ => ?_)
      generalize wc.drew = w28 at HO_482000 HO_482002 HO_484000 HO_484002 BK481 BK483 HB hx484_0 hHeld ⊢
      refine pB_ 1 44 HT_.out ?_
      refine pB_ 2 45 HT_.out ?_
      refine pB_ 3 46 HT_.out ?_
      refine tB_ 0 43 HT_.out HW_.out hHeld ?_
      refine tB_ 4 47 HT_.out HW_.out hHeld ?_
      refine pB_ 5 48 HT_.out ?_
      refine pB_ 6 49 HT_.out ?_
      refine pB_ 7 50 HT_.out ?_
      refine pB_ 8 51 HT_.out ?_
      refine join_ (σ := Value × Value × Nat) 2 #[true, true, true, true, true, true, true, true, true, true, true, true, true, true, false, false] (fun s_ => [(52, .tuple #[.agg #[s_.1, .int .i64 t488, s_.2.1], .int .i64 t492]), (12, .pointer (some ⟨s_.2.2, 0, none⟩)), (42, .tuple #[.agg #[s_.1, .int .i64 t488, s_.2.1], .int .i64 t492]), (53, .agg #[s_.1, .int .i64 t488, s_.2.1]), (54, .int .i64 t492)]) (fun s_ w' => (w'.cell? ⟨gb483, 0, none⟩ = some (.slice Ao26 x484000_1.length co26) ∧ w'.cell? ⟨gb483, 1, none⟩ = some (.int .i64 x484001_1) ∧ w'.cell? ⟨gb483, 2, none⟩ = some (.slice Ao27 x484002_1.length co27) ∧ w'.cell? (ad484.add (x11_1).toNat) = some (.int .i64 (rd l2 x11_1))) ∧ (Kd.N k66 66 w' w.heap.size (fun k_ => some k_ ≠ (s_.2.1 : Value).ownBlock ∧ some k_ ≠ (.slice Ao12 t473.length co12 : Value).ownBlock ∧ some k_ ≠ (.slice Ao14 t477.length co14 : Value).ownBlock ∧ some k_ ≠ (.slice Ao26 x484000_1.length co26 : Value).ownBlock ∧ some k_ ≠ (.slice Ao27 x484002_1.length co27 : Value).ownBlock ∧ k_ ≠ gb481 ∧ k_ ≠ gb483 ∧ k_ ≠ s_.2.2) s_.1 t485) ∧ (Kd.R k53 53 w' w.heap.size (fun k_ => some k_ ≠ (.slice Ao14 t477.length co14 : Value).ownBlock ∧ some k_ ≠ (.slice Ao27 x484002_1.length co27 : Value).ownBlock) s_.2.1 t489) ∧ (Kd.N k66 66 w' w.heap.size (fun k_ => some k_ ≠ (s_.1 : Value).ownBlock ∧ some k_ ≠ (s_.2.1 : Value).ownBlock ∧ some k_ ≠ (.slice Ao14 t477.length co14 : Value).ownBlock ∧ some k_ ≠ (.slice Ao27 x484002_1.length co27 : Value).ownBlock ∧ k_ ≠ gb481 ∧ k_ ≠ gb483 ∧ k_ ≠ s_.2.2) (.slice Ao12 t473.length co12) t473) ∧ (Kd.R k53 53 w' w.heap.size (fun k_ => some k_ ≠ (s_.2.1 : Value).ownBlock) (.slice Ao14 t477.length co14) t477) ∧ (Kd.N k66 66 w' w.heap.size (fun k_ => some k_ ≠ (s_.1 : Value).ownBlock ∧ some k_ ≠ (s_.2.1 : Value).ownBlock ∧ some k_ ≠ (.slice Ao14 t477.length co14 : Value).ownBlock ∧ some k_ ≠ (.slice Ao27 x484002_1.length co27 : Value).ownBlock ∧ k_ ≠ gb481 ∧ k_ ≠ gb483 ∧ k_ ≠ s_.2.2) (.slice Ao26 x484000_1.length co26) x484000_1) ∧ (Kd.R k53 53 w' w.heap.size (fun k_ => some k_ ≠ (s_.2.1 : Value).ownBlock) (.slice Ao27 x484002_1.length co27) x484002_1) ∧ (w'.heap[gb481]? = some (.cells #[.slice Ao12 t473.length co12, .int .i64 t476, .slice Ao14 t477.length co14] 25 (0, 0))) ∧ (w'.heap[gb483]? = some (.cells #[.slice Ao26 x484000_1.length co26, .int .i64 x484001_1, .slice Ao27 x484002_1.length co27] 25 (0, 0))) ∧ (w'.heap[s_.2.2]? = some (.cells #[.slice none 0 0, .int .i64 0, .slice none 0 0] 25 (0, 0))) ∧ (w.heap.size ≤ s_.2.2) ∧ (w.heap.size ≤ s_.2.2) ∧ (gb481 ≠ s_.2.2) ∧ (s_.2.2 ≠ gb481) ∧ (gb483 ≠ s_.2.2) ∧ (s_.2.2 ≠ gb483) ∧ (Below w.heap.size w w')) ?_ ?_
      rotate_left
      · intro hCont
        refine two_ (i := 9) (j := 13) (Ni := some 52) (Nj := some 12) #[true, true, true, true, true, true, true, true, true, true, false, false, false, false, false, false] #[true, true, true, true, true, true, true, true, true, false, false, false, false, true, false, false] rfl rfl rfl rfl (two_of HT_.out (by kernel_rfl)) (by decide) (by decide) (fun K hK => ?_) (fun K hK => ?_)
        · skip
          refine goes_ Tryz.func8 (by kernel_rfl) rfl #[.agg #[.slice Ao26 x484000_1.length co26, .int .i64 x484001_1, .slice Ao27 x484002_1.length co27], .int .i64 (wrap64 (1 + (wrap64 (Int.tmod (IntKind.u64.wrap (rd l2 x11_1)) 3))))] (by rfl) rfl rfl hL_ ?_
          with_reducible refine (answer_Put.calls kj17 _ _ x484000_1 x484001_1 _ _ x484002_1 (wrap64 (1 + (wrap64 (Int.tmod (IntKind.u64.wrap (rd l2 x11_1)) 3)))) t485 t488 t489 t492 _ ?side1 ?side2 ?side3 ?side4 A23.out (by first | exact hG | exact GOK.below hG hC_)).mono ?_
          (case side1 => repeat (first | exact (Kd.N_reads' HO_484000.out).2.2 | (with_reducible refine Kd.C_alloc ?_ _) | (with_reducible refine Kd.C_drewN ?_ _) | (with_reducible refine Kd.C_drew ?_)))
          (case side2 => exact (Kd.N_reads' HO_484000.out).2.1)
          (case side3 => exact cC_ (Kd.R_reads' HO_484002.out).2.2)
          (case side4 => exact (Kd.R_reads' HO_484002.out).2.1)
          rintro e w29 ⟨v486, v490, rfl, ho0, ho1, hb⟩
          refine ⟨_, rfl, ?_⟩
          have HO487 := a_ (Kd.N_lower (Kd.N_mono (ok' := fun k_ => some k_ ≠ (v490 : Value).ownBlock ∧ some k_ ≠ (.slice Ao12 t473.length co12 : Value).ownBlock ∧ some k_ ≠ (.slice Ao14 t477.length co14 : Value).ownBlock ∧ some k_ ≠ (.slice Ao26 x484000_1.length co26 : Value).ownBlock ∧ some k_ ≠ (.slice Ao27 x484002_1.length co27 : Value).ownBlock ∧ k_ ≠ gb481 ∧ k_ ≠ gb483) (Kd.S_N (Kd.S_bound (Kd.S_apart' ho0 (Kd.R_typed ho1) (by decide)))) (fun k_ hk_ => ⟨hk_.1.2, (Kd.fresh' (Kd.N_lt (hN_ HO_482000.out)) k_ hk_.2.1), (Kd.fresh' (Kd.R_lt (hR_ HO_482002.out)) k_ hk_.2.1), (Kd.fresh' (Kd.N_lt (hN_ HO_484000.out)) k_ hk_.2.1), (Kd.fresh' (Kd.R_lt (hR_ HO_484002.out)) k_ hk_.2.1), (Kd.freshB (g := gb481) (o := .cells #[.slice Ao12 t473.length co12, .int .i64 t476, .slice Ao14 t477.length co14] 25 (0, 0)) (hK_ BK481.out) k_ hk_.2.1), (Kd.freshB (g := gb483) (o := .cells #[.slice Ao26 x484000_1.length co26, .int .i64 x484001_1, .slice Ao27 x484002_1.length co27] 25 (0, 0)) (hK_ BK483.out) k_ hk_.2.1)⟩)) (below_size hC_))
          replace HO_482000 := a_ (Kd.N_mono (Kd.N_told (Kd.N_told (Kd.N_old (hN_ HO_482000.out) hb) (Kd.N_base (Kd.R_N (Kd.S_R ho0)))) (Kd.R_base ho1)) (fun _ h_ => h_.1))
          replace HO_484000 := a_ (Kd.N_mono (Kd.N_told (Kd.N_told (Kd.N_old (hN_ HO_484000.out) hb) (Kd.N_base (Kd.R_N (Kd.S_R ho0)))) (Kd.R_base ho1)) (fun _ h_ => h_.1))
          have HO491 := a_ (Kd.R_lower (Kd.R_new' (Kd.R_new' ho1 (Kd.R_lt (hR_ HO_482002.out))) (Kd.R_lt (hR_ HO_484002.out))) (below_size hC_))
          replace HO_482002 := a_ (Kd.R_elder' (hR_ HO_482002.out) (Kd.R_base ho1) hb)
          replace HO_484002 := a_ (Kd.R_elder' (hR_ HO_484002.out) (Kd.R_base ho1) hb)
          replace BK481 := a_ (bB_ BK481.out hb)
          replace BK483 := a_ (bB_ BK483.out hb)
          replace HB := a_ (below_step hC_ hb)
          (try clear hb)
          (try clear hb2)
          (try clear hk)
          (try clear hi)
          (try clear ho0)
          (try clear ho1)
          refine hK.out _ _ ⟨(blk_cell BK483.out 0).trans rfl, (blk_cell BK483.out 1).trans rfl, (blk_cell BK483.out 2).trans rfl, (cl_ HB.out hw484_0)⟩ (fun hHeld => ?_)
          clear hK K
          refine norm_ (a' := ?_) ?_ ?_
          rotate_left
          · show Act.put _ (some 52) _ = _
            simp only [Act.put, List.setIfInBounds_toArray, List.set_cons_zero, List.set_cons_succ, i64_w, i32_w]
            rfl
          refine pB_ 10 42 HT_.out ?_
          refine pB_ 11 53 HT_.out ?_
          refine pB_ 12 54 HT_.out ?_
          refine one_ (i := 13) (N := some 12) #[true, true, true, true, true, true, true, true, true, true, true, true, true, true, false, false] rfl rfl (one_of HT_.out (by kernel_rfl)) (by decide) (fun K hK => ?_)
          refine box_step ?hg (N := 12) ?hd (cs := #[.slice none 0 0, .int .i64 0, .slice none 0 0]) (t := 25) ?hr ?_; (case hd => rfl); (case hg => rfl); (case hr => first | (go_simp; done) | (go_simp; rfl))
          intro gb493 hg w30 hbox hb
          replace HO_482000 := a_ (Kd.N_below (Kd.N_elderB (hN_ HO_482000.out) gb493 (Nat.le_of_eq hg.symm)) hb)
          replace HO_482002 := a_ (Kd.R_below (hR_ HO_482002.out) hb)
          replace HO_484000 := a_ (Kd.N_below (Kd.N_elderB (hN_ HO_484000.out) gb493 (Nat.le_of_eq hg.symm)) hb)
          replace HO_484002 := a_ (Kd.R_below (hR_ HO_484002.out) hb)
          replace HO487 := a_ (Kd.N_below (Kd.N_elderB (hN_ HO487.out) gb493 (Nat.le_of_eq hg.symm)) hb)
          replace HO491 := a_ (Kd.R_below (hR_ HO491.out) hb)
          have BK493 := a_ (hbox)
          have GW493 := a_ ((gE_ hg : w.heap.size ≤ gb493))
          have GE493 := a_ ((gE_ hg : w.heap.size ≤ gb493))
          replace HB := a_ (below_step hC_ hb)
          have NB481_493 := a_ ((bL_ BK481.out hg : gb481 ≠ gb493))
          have NB493_481 := a_ ((bG_ BK481.out hg : gb493 ≠ gb481))
          replace BK481 := a_ (bB_ BK481.out hb)
          have NB483_493 := a_ ((bL_ BK483.out hg : gb483 ≠ gb493))
          have NB493_483 := a_ ((bG_ BK483.out hg : gb493 ≠ gb483))
          replace BK483 := a_ (bB_ BK483.out hb)
          clear hb hbox hg
          refine hK.out _ _ ⟨(blk_cell BK483.out 0).trans rfl, (blk_cell BK483.out 1).trans rfl, (blk_cell BK483.out 2).trans rfl, (cl_ HB.out hw484_0)⟩ (fun hHeld => ?_)
          clear hK K
          refine norm_ (a' := ?_) ?_ ?_
          rotate_left
          · show Act.put _ (some 12) _ = _
            simp only [Act.put, List.setIfInBounds_toArray, List.set_cons_zero, List.set_cons_succ, i64_w, i32_w]
            rfl
          exact norm_ (by simp only [putAll, Act.put, List.setIfInBounds_toArray, List.set_cons_zero, List.set_cons_succ]) (hCont (v486, v490, gb493) _ ⟨hHeld, (by (with_reducible repeat (first | apply Kd.N_alloc | apply Kd.N_drewN | apply Kd.N_drew)); exact Kd.N_mono HO487.out (fun _ hk => ⟨hk.1.1, ⟨hk.1.2.1, ⟨hk.1.2.2.1, ⟨hk.1.2.2.2.1, ⟨hk.1.2.2.2.2.1, ⟨hk.1.2.2.2.2.2.1, ⟨hk.1.2.2.2.2.2.2, hk.2⟩⟩⟩⟩⟩⟩⟩)), (by (with_reducible repeat (first | apply Kd.R_alloc | apply Kd.R_drewN | apply Kd.R_drew)); exact Kd.R_mono HO491.out (fun _ hk => ⟨hk.1.2, hk.2⟩)), (by (with_reducible repeat (first | apply Kd.N_alloc | apply Kd.N_drewN | apply Kd.N_drew)); exact Kd.N_mono HO_482000.out (fun _ hk => ⟨hk.1.1.2, ⟨hk.1.2, ⟨hk.1.1.1.1, ⟨hk.1.1.1.2.1, ⟨hk.1.1.1.2.2.1, ⟨hk.1.1.1.2.2.2, hk.2⟩⟩⟩⟩⟩⟩)), (by (with_reducible repeat (first | apply Kd.R_alloc | apply Kd.R_drewN | apply Kd.R_drew)); exact Kd.R_mono HO_482002.out (fun _ hk => hk.2)), (by (with_reducible repeat (first | apply Kd.N_alloc | apply Kd.N_drewN | apply Kd.N_drew)); exact Kd.N_mono HO_484000.out (fun _ hk => ⟨hk.1.1.2, ⟨hk.1.2, ⟨hk.1.1.1.1, ⟨hk.1.1.1.2.1, ⟨hk.1.1.1.2.2.1, ⟨hk.1.1.1.2.2.2, hk.2⟩⟩⟩⟩⟩⟩)), (by (with_reducible repeat (first | apply Kd.R_alloc | apply Kd.R_drewN | apply Kd.R_drew)); exact Kd.R_mono HO_484002.out (fun _ hk => hk.2)), (hK_ BK481.out), (hK_ BK483.out), (hK_ BK493.out), GW493.out, GE493.out, NB481_493.out, NB493_481.out, NB483_493.out, NB493_483.out, hC_⟩)
        · skip
          refine box_step ?hg (N := 12) ?hd (cs := #[.slice none 0 0, .int .i64 0, .slice none 0 0]) (t := 25) ?hr ?_; (case hd => rfl); (case hg => rfl); (case hr => first | (go_simp; done) | (go_simp; rfl))
          intro gb493 hg w29 hbox hb
          replace HO_482000 := a_ (Kd.N_below (Kd.N_elderB (hN_ HO_482000.out) gb493 (Nat.le_of_eq hg.symm)) hb)
          replace HO_482002 := a_ (Kd.R_below (hR_ HO_482002.out) hb)
          replace HO_484000 := a_ (Kd.N_below (Kd.N_elderB (hN_ HO_484000.out) gb493 (Nat.le_of_eq hg.symm)) hb)
          replace HO_484002 := a_ (Kd.R_below (hR_ HO_484002.out) hb)
          have BK493 := a_ (hbox)
          have GW493 := a_ ((gE_ hg : w.heap.size ≤ gb493))
          have GE493 := a_ ((gE_ hg : w.heap.size ≤ gb493))
          replace HB := a_ (below_step hC_ hb)
          have NB481_493 := a_ ((bL_ BK481.out hg : gb481 ≠ gb493))
          have NB493_481 := a_ ((bG_ BK481.out hg : gb493 ≠ gb481))
          replace BK481 := a_ (bB_ BK481.out hb)
          have NB483_493 := a_ ((bL_ BK483.out hg : gb483 ≠ gb493))
          have NB493_483 := a_ ((bG_ BK483.out hg : gb493 ≠ gb483))
          replace BK483 := a_ (bB_ BK483.out hb)
          clear hb hbox hg
          refine hK.out _ _ ⟨(blk_cell BK483.out 0).trans rfl, (blk_cell BK483.out 1).trans rfl, (blk_cell BK483.out 2).trans rfl, (cl_ HB.out hw484_0)⟩ (fun hHeld => ?_)
          clear hK K
          refine norm_ (a' := ?_) ?_ ?_
          rotate_left
          · show Act.put _ (some 12) _ = _
            simp only [Act.put, List.setIfInBounds_toArray, List.set_cons_zero, List.set_cons_succ, i64_w, i32_w]
            rfl
          refine one_ (i := 9) (N := some 52) #[true, true, true, true, true, true, true, true, true, true, false, false, false, true, false, false] rfl rfl (one_of HT_.out (by kernel_rfl)) (by decide) (fun K hK => ?_)
          refine goes_ Tryz.func8 (by kernel_rfl) rfl #[.agg #[.slice Ao26 x484000_1.length co26, .int .i64 x484001_1, .slice Ao27 x484002_1.length co27], .int .i64 (wrap64 (1 + (wrap64 (Int.tmod (IntKind.u64.wrap (rd l2 x11_1)) 3))))] (by rfl) rfl rfl hL_ ?_
          with_reducible refine (answer_Put.calls kj17 _ _ x484000_1 x484001_1 _ _ x484002_1 (wrap64 (1 + (wrap64 (Int.tmod (IntKind.u64.wrap (rd l2 x11_1)) 3)))) t485 t488 t489 t492 _ ?side1 ?side2 ?side3 ?side4 A23.out (by first | exact hG | exact GOK.below hG hC_)).mono ?_
          (case side1 => repeat (first | exact (Kd.N_reads' HO_484000.out).2.2 | (with_reducible refine Kd.C_alloc ?_ _) | (with_reducible refine Kd.C_drewN ?_ _) | (with_reducible refine Kd.C_drew ?_)))
          (case side2 => exact (Kd.N_reads' HO_484000.out).2.1)
          (case side3 => exact cC_ (Kd.R_reads' HO_484002.out).2.2)
          (case side4 => exact (Kd.R_reads' HO_484002.out).2.1)
          rintro e w30 ⟨v486, v490, rfl, ho0, ho1, hb⟩
          refine ⟨_, rfl, ?_⟩
          have HO487 := a_ (Kd.N_lower (Kd.N_mono (ok' := fun k_ => some k_ ≠ (v490 : Value).ownBlock ∧ some k_ ≠ (.slice Ao12 t473.length co12 : Value).ownBlock ∧ some k_ ≠ (.slice Ao14 t477.length co14 : Value).ownBlock ∧ some k_ ≠ (.slice Ao26 x484000_1.length co26 : Value).ownBlock ∧ some k_ ≠ (.slice Ao27 x484002_1.length co27 : Value).ownBlock ∧ k_ ≠ gb481 ∧ k_ ≠ gb483 ∧ k_ ≠ gb493) (Kd.S_N (Kd.S_bound (Kd.S_apart' ho0 (Kd.R_typed ho1) (by decide)))) (fun k_ hk_ => ⟨hk_.1.2, (Kd.fresh' (Kd.N_lt (hN_ HO_482000.out)) k_ hk_.2.1), (Kd.fresh' (Kd.R_lt (hR_ HO_482002.out)) k_ hk_.2.1), (Kd.fresh' (Kd.N_lt (hN_ HO_484000.out)) k_ hk_.2.1), (Kd.fresh' (Kd.R_lt (hR_ HO_484002.out)) k_ hk_.2.1), (Kd.freshB (g := gb481) (o := .cells #[.slice Ao12 t473.length co12, .int .i64 t476, .slice Ao14 t477.length co14] 25 (0, 0)) (hK_ BK481.out) k_ hk_.2.1), (Kd.freshB (g := gb483) (o := .cells #[.slice Ao26 x484000_1.length co26, .int .i64 x484001_1, .slice Ao27 x484002_1.length co27] 25 (0, 0)) (hK_ BK483.out) k_ hk_.2.1), (Kd.freshB (g := gb493) (o := .cells #[.slice none 0 0, .int .i64 0, .slice none 0 0] 25 (0, 0)) (hK_ BK493.out) k_ hk_.2.1)⟩)) (below_size hC_))
          replace HO_482000 := a_ (Kd.N_mono (Kd.N_told (Kd.N_told (Kd.N_old (hN_ HO_482000.out) hb) (Kd.N_base (Kd.R_N (Kd.S_R ho0)))) (Kd.R_base ho1)) (fun _ h_ => h_.1))
          replace HO_484000 := a_ (Kd.N_mono (Kd.N_told (Kd.N_told (Kd.N_old (hN_ HO_484000.out) hb) (Kd.N_base (Kd.R_N (Kd.S_R ho0)))) (Kd.R_base ho1)) (fun _ h_ => h_.1))
          have HO491 := a_ (Kd.R_lower (Kd.R_new' (Kd.R_new' ho1 (Kd.R_lt (hR_ HO_482002.out))) (Kd.R_lt (hR_ HO_484002.out))) (below_size hC_))
          replace HO_482002 := a_ (Kd.R_elder' (hR_ HO_482002.out) (Kd.R_base ho1) hb)
          replace HO_484002 := a_ (Kd.R_elder' (hR_ HO_484002.out) (Kd.R_base ho1) hb)
          replace BK481 := a_ (bB_ BK481.out hb)
          replace BK483 := a_ (bB_ BK483.out hb)
          replace BK493 := a_ (bB_ BK493.out hb)
          replace HB := a_ (below_step hC_ hb)
          (try clear hb)
          (try clear hb2)
          (try clear hk)
          (try clear hi)
          (try clear ho0)
          (try clear ho1)
          refine hK.out _ _ ⟨(blk_cell BK483.out 0).trans rfl, (blk_cell BK483.out 1).trans rfl, (blk_cell BK483.out 2).trans rfl, (cl_ HB.out hw484_0)⟩ (fun hHeld => ?_)
          clear hK K
          refine norm_ (a' := ?_) ?_ ?_
          rotate_left
          · show Act.put _ (some 52) _ = _
            simp only [Act.put, List.setIfInBounds_toArray, List.set_cons_zero, List.set_cons_succ, i64_w, i32_w]
            rfl
          refine pB_ 10 42 HT_.out ?_
          refine pB_ 11 53 HT_.out ?_
          refine pB_ 12 54 HT_.out ?_
          exact norm_ (by simp only [putAll, Act.put, List.setIfInBounds_toArray, List.set_cons_zero, List.set_cons_succ]) (hCont (v486, v490, gb493) _ ⟨hHeld, (hN_ HO487.out), (by (with_reducible repeat (first | apply Kd.R_alloc | apply Kd.R_drewN | apply Kd.R_drew)); exact Kd.R_mono HO491.out (fun _ hk => ⟨hk.1.2, hk.2⟩)), (by (with_reducible repeat (first | apply Kd.N_alloc | apply Kd.N_drewN | apply Kd.N_drew)); exact Kd.N_mono HO_482000.out (fun _ hk => ⟨hk.1.2, ⟨hk.2, ⟨hk.1.1.1.1, ⟨hk.1.1.1.2.1, ⟨hk.1.1.1.2.2.1, ⟨hk.1.1.1.2.2.2, hk.1.1.2⟩⟩⟩⟩⟩⟩)), (by (with_reducible repeat (first | apply Kd.R_alloc | apply Kd.R_drewN | apply Kd.R_drew)); exact Kd.R_mono HO_482002.out (fun _ hk => hk.2)), (by (with_reducible repeat (first | apply Kd.N_alloc | apply Kd.N_drewN | apply Kd.N_drew)); exact Kd.N_mono HO_484000.out (fun _ hk => ⟨hk.1.2, ⟨hk.2, ⟨hk.1.1.1.1, ⟨hk.1.1.1.2.1, ⟨hk.1.1.1.2.2.1, ⟨hk.1.1.1.2.2.2, hk.1.1.2⟩⟩⟩⟩⟩⟩)), (by (with_reducible repeat (first | apply Kd.R_alloc | apply Kd.R_drewN | apply Kd.R_drew)); exact Kd.R_mono HO_484002.out (fun _ hk => hk.2)), (hK_ BK481.out), (hK_ BK483.out), (hK_ BK493.out), GW493.out, GE493.out, NB481_493.out, NB493_481.out, NB483_493.out, NB493_483.out, hC_⟩)
      rintro ⟨v486, v490, gb493⟩ w31 ⟨hS_, h0_, h1_, h2_, h3_, h4_, h5_, h6_, h7_, h8_, h9_, h10_, h11_, h12_, h13_, h14_, h15_⟩
      have HO487 : Aside0 (Kd.N k66 66 w31 w.heap.size (fun k_ => some k_ ≠ (v490 : Value).ownBlock ∧ some k_ ≠ (.slice Ao12 t473.length co12 : Value).ownBlock ∧ some k_ ≠ (.slice Ao14 t477.length co14 : Value).ownBlock ∧ some k_ ≠ (.slice Ao26 x484000_1.length co26 : Value).ownBlock ∧ some k_ ≠ (.slice Ao27 x484002_1.length co27 : Value).ownBlock ∧ k_ ≠ gb481 ∧ k_ ≠ gb483 ∧ k_ ≠ gb493) v486 t485) := ⟨h0_⟩
      have HO491 : Aside0 (Kd.R k53 53 w31 w.heap.size (fun k_ => some k_ ≠ (.slice Ao14 t477.length co14 : Value).ownBlock ∧ some k_ ≠ (.slice Ao27 x484002_1.length co27 : Value).ownBlock) v490 t489) := ⟨h1_⟩
      replace HO_482000 : Aside0 (Kd.N k66 66 w31 w.heap.size (fun k_ => some k_ ≠ (v486 : Value).ownBlock ∧ some k_ ≠ (v490 : Value).ownBlock ∧ some k_ ≠ (.slice Ao14 t477.length co14 : Value).ownBlock ∧ some k_ ≠ (.slice Ao27 x484002_1.length co27 : Value).ownBlock ∧ k_ ≠ gb481 ∧ k_ ≠ gb483 ∧ k_ ≠ gb493) (.slice Ao12 t473.length co12) t473) := ⟨h2_⟩
      replace HO_482002 : Aside0 (Kd.R k53 53 w31 w.heap.size (fun k_ => some k_ ≠ (v490 : Value).ownBlock) (.slice Ao14 t477.length co14) t477) := ⟨h3_⟩
      replace HO_484000 : Aside0 (Kd.N k66 66 w31 w.heap.size (fun k_ => some k_ ≠ (v486 : Value).ownBlock ∧ some k_ ≠ (v490 : Value).ownBlock ∧ some k_ ≠ (.slice Ao14 t477.length co14 : Value).ownBlock ∧ some k_ ≠ (.slice Ao27 x484002_1.length co27 : Value).ownBlock ∧ k_ ≠ gb481 ∧ k_ ≠ gb483 ∧ k_ ≠ gb493) (.slice Ao26 x484000_1.length co26) x484000_1) := ⟨h4_⟩
      replace HO_484002 : Aside0 (Kd.R k53 53 w31 w.heap.size (fun k_ => some k_ ≠ (v490 : Value).ownBlock) (.slice Ao27 x484002_1.length co27) x484002_1) := ⟨h5_⟩
      replace BK481 : Aside0 (w31.heap[gb481]? = some (.cells #[.slice Ao12 t473.length co12, .int .i64 t476, .slice Ao14 t477.length co14] 25 (0, 0))) := ⟨h6_⟩
      replace BK483 : Aside0 (w31.heap[gb483]? = some (.cells #[.slice Ao26 x484000_1.length co26, .int .i64 x484001_1, .slice Ao27 x484002_1.length co27] 25 (0, 0))) := ⟨h7_⟩
      have BK493 : Aside0 (w31.heap[gb493]? = some (.cells #[.slice none 0 0, .int .i64 0, .slice none 0 0] 25 (0, 0))) := ⟨h8_⟩
      have GW493 : Aside0 (w.heap.size ≤ gb493) := ⟨h9_⟩
      have GE493 : Aside0 (w.heap.size ≤ gb493) := ⟨h10_⟩
      have NB481_493 : Aside0 (gb481 ≠ gb493) := ⟨h11_⟩
      have NB493_481 : Aside0 (gb493 ≠ gb481) := ⟨h12_⟩
      have NB483_493 : Aside0 (gb483 ≠ gb493) := ⟨h13_⟩
      have NB493_483 : Aside0 (gb493 ≠ gb483) := ⟨h14_⟩
      replace HB : Aside0 (Below w.heap.size w w31) := ⟨h15_⟩
      clear h0_ h1_ h2_ h3_ h4_ h5_ h6_ h7_ h8_ h9_ h10_ h11_ h12_ h13_ h14_ h15_
      have hHeld : w31.cell? ⟨gb483, 0, none⟩ = some (.slice Ao26 x484000_1.length co26) ∧ w31.cell? ⟨gb483, 1, none⟩ = some (.int .i64 x484001_1) ∧ w31.cell? ⟨gb483, 2, none⟩ = some (.slice Ao27 x484002_1.length co27) ∧ w31.cell? (ad484.add (x11_1).toNat) = some (.int .i64 (rd l2 x11_1)) := hS_
      obtain ⟨Ao32, co32, eo32⟩ := Kd.N_slice HO487.out
      (first | subst eo32 | (injection eo32 with f1_ f2_ f3_; have f4_ := f1_.symm; have f5_ := f3_.symm; clear f1_ f2_ f3_; subst f4_; subst f5_))
      obtain ⟨Ao35, co35, eo35⟩ := Kd.R_slice HO491.out
      (first | subst eo35 | (injection eo35 with f1_ f2_ f3_; have f4_ := f1_.symm; have f5_ := f3_.symm; clear f1_ f2_ f3_; subst f4_; subst f5_))
      refine norm_ (a' := ?_) ?_ ?_
      rotate_left
      · simp only [putAll, Act.put, List.setIfInBounds_toArray, List.set_cons_zero, List.set_cons_succ]
        rfl
      refine one_ (i := 14) (N := none) #[true, true, true, true, true, true, true, true, true, true, true, true, true, true, true, false] rfl rfl (one_of HT_.out (by kernel_rfl)) (by decide) (fun K hK => ?_)
      have hs33 := bc0_ BK493.out
      have hfs33 := blk_frozen BK493.out 0
      have hns33_0 := NB481_493.out
      have hns33_1 := NB483_493.out
      have hms33_0 := NB493_481.out
      have hms33_1 := NB493_483.out
      have hs34 := bc1_ BK493.out
      have hfs34 := blk_frozen BK493.out 1
      have hns34_0 := NB481_493.out
      have hns34_1 := NB483_493.out
      have hms34_0 := NB493_481.out
      have hms34_1 := NB493_483.out
      have hs36 := bc2_ BK493.out
      have hfs36 := blk_frozen BK493.out 2
      have hns36_0 := NB481_493.out
      have hns36_1 := NB483_493.out
      have hms36_0 := NB493_481.out
      have hms36_1 := NB493_483.out
      refine skip_ (w1 := ?_) (by rfl) rfl ?_ ?_
      rotate_left
      · go_simp
        rfl
      refine hK.out _ _ ⟨((cell_far (p := ⟨gb493, _, none⟩) NB483_493.out _).trans (((cell_far (p := ⟨gb493, _, none⟩) NB483_493.out _).trans (((cell_far (p := ⟨gb493, _, none⟩) NB483_493.out _).trans (hHeld.1)))))), ((cell_far (p := ⟨gb493, _, none⟩) NB483_493.out _).trans (((cell_far (p := ⟨gb493, _, none⟩) NB483_493.out _).trans (((cell_far (p := ⟨gb493, _, none⟩) NB483_493.out _).trans (hHeld.2.1)))))), ((cell_far (p := ⟨gb493, _, none⟩) NB483_493.out _).trans (((cell_far (p := ⟨gb493, _, none⟩) NB483_493.out _).trans (((cell_far (p := ⟨gb493, _, none⟩) NB483_493.out _).trans (hHeld.2.2.1)))))), ((cell_far (p := ⟨gb493, _, none⟩) (by first | exact Nat.ne_of_lt (Nat.lt_of_lt_of_le (by have := World.block_lt_of_cell? _ _ hw484_0; first | rwa [add_block] at this | exact this) GW493.out) | (rw [add_block]; exact Nat.ne_of_lt (Nat.lt_of_lt_of_le (by have := World.block_lt_of_cell? _ _ hw484_0; first | rwa [add_block] at this | exact this) GW493.out)) | (show (Addr.add _ _).block ≠ _; rw [add_block]; exact Nat.ne_of_lt (Nat.lt_of_lt_of_le (by have := World.block_lt_of_cell? _ _ hw484_0; first | rwa [add_block] at this | exact this) GW493.out)) | (dsimp only; exact Nat.ne_of_lt (Nat.lt_of_lt_of_le (by have := World.block_lt_of_cell? _ _ hw484_0; first | rwa [add_block] at this | exact this) GW493.out))) _).trans (((cell_far (p := ⟨gb493, _, none⟩) (by first | exact Nat.ne_of_lt (Nat.lt_of_lt_of_le (by have := World.block_lt_of_cell? _ _ hw484_0; first | rwa [add_block] at this | exact this) GW493.out) | (rw [add_block]; exact Nat.ne_of_lt (Nat.lt_of_lt_of_le (by have := World.block_lt_of_cell? _ _ hw484_0; first | rwa [add_block] at this | exact this) GW493.out)) | (show (Addr.add _ _).block ≠ _; rw [add_block]; exact Nat.ne_of_lt (Nat.lt_of_lt_of_le (by have := World.block_lt_of_cell? _ _ hw484_0; first | rwa [add_block] at this | exact this) GW493.out)) | (dsimp only; exact Nat.ne_of_lt (Nat.lt_of_lt_of_le (by have := World.block_lt_of_cell? _ _ hw484_0; first | rwa [add_block] at this | exact this) GW493.out))) _).trans (((cell_far (p := ⟨gb493, _, none⟩) (by first | exact Nat.ne_of_lt (Nat.lt_of_lt_of_le (by have := World.block_lt_of_cell? _ _ hw484_0; first | rwa [add_block] at this | exact this) GW493.out) | (rw [add_block]; exact Nat.ne_of_lt (Nat.lt_of_lt_of_le (by have := World.block_lt_of_cell? _ _ hw484_0; first | rwa [add_block] at this | exact this) GW493.out)) | (show (Addr.add _ _).block ≠ _; rw [add_block]; exact Nat.ne_of_lt (Nat.lt_of_lt_of_le (by have := World.block_lt_of_cell? _ _ hw484_0; first | rwa [add_block] at this | exact this) GW493.out)) | (dsimp only; exact Nat.ne_of_lt (Nat.lt_of_lt_of_le (by have := World.block_lt_of_cell? _ _ hw484_0; first | rwa [add_block] at this | exact this) GW493.out))) _).trans (hHeld.2.2.2))))))⟩ (fun hHeld => ?_)
      clear hK K
      refine pB_ 15 13 HT_.out ?_
      refine done_ (done_of HT_.out (by kernel_rfl)) ?_
      try go_wp2_with (first | ((with_reducible refine gate_callee (f := 13) rfl ?_); refine goesL_ _ rfl rfl Tryz.func13 (by kernel_rfl) rfl #[.int .i64 t492] rfl hL_ ?_; (with_reducible refine (sleuthlaw0_Num.calls t492 t494 _ A24.out).mono ?_); rintro e w' ⟨rfl, ⟨nd, rfl⟩⟩; refine ⟨_, rfl, ?_⟩; have hnb37 := NB493_481.out; have hnc37 := NB481_493.out; have hnb38 := NB493_483.out; have hnc38 := NB483_493.out; obtain ⟨hcz39_0, hcz39_1, hcz39_2, hfz39_0, hfz39_1, hfz39_2⟩ := bx3_ BK493.out; have hnb40 := NB483_481.out; have hnc40 := NB481_483.out; obtain ⟨hcz41_0, hcz41_1, hcz41_2, hfz41_0, hfz41_1, hfz41_2⟩ := bx3_ BK483.out))
      go_roundg kj17
      case measure => have := HK1.out; have := HJ17.out; omega
      case rel => exact ⟨(wrap64 (x10_1 + 1)), (wrap64 (x11_1 + 1)), (t485), (t488), (t489), (.slice Ao32 t485.length co32), (.slice Ao35 t489.length co35), hW_, hW_, H', ⟨by have := HK1.out; have := HJ17.out; omega⟩, ⟨by (with_reducible repeat (first | apply Kd.N_alloc | apply Kd.N_drewN | apply Kd.N_drew)); exact Kd.N_mono (nF_ (nF_ (nF_ (Kd.N_far (p := ⟨gb493, 2, none⟩) (Kd.N_far (p := ⟨gb493, 1, none⟩) (Kd.N_far (p := ⟨gb493, 0, none⟩) (Kd.N_mono (Kd.N_mono HO_482000.out (fun k_ hk => (⟨hk, hk.2.2.2.2.2.2⟩ : _ ∧ k_ ≠ gb493))) (fun k_ hk => (⟨hk, hk.1.2.2.2.2.2.1⟩ : _ ∧ k_ ≠ gb483))) (fun _ hk => hk.1.2) (.slice Ao32 t485.length co32)) (fun _ hk => hk.1.2) (.int .i64 t488)) (fun _ hk => hk.1.2) (.slice Ao35 t489.length co35))))) (fun _ hk => ⟨hk.1.1.2.2.1, ⟨hk.1.1.2.1, ⟨hk.1.1.2.2.2.2.1, hk.1.1.2.2.2.2.2.1⟩⟩⟩)⟩, ⟨by (with_reducible repeat (first | apply Kd.R_alloc | apply Kd.R_drewN | apply Kd.R_drew)); exact Kd.R_mono (rF_ (rF_ (rF_ (Kd.R_far (p := ⟨gb493, 2, none⟩) (Kd.R_far (p := ⟨gb493, 1, none⟩) (Kd.R_far (p := ⟨gb493, 0, none⟩) (Kd.R_types (Kd.R_types HO_482002.out BK493.out (by decide)) BK483.out (by decide)) (fun _ hk => hk.1.2) (.slice Ao32 t485.length co32)) (fun _ hk => hk.1.2) (.int .i64 t488)) (fun _ hk => hk.1.2) (.slice Ao35 t489.length co35))))) (fun _ hk => trivial)⟩, ⟨by (with_reducible repeat (first | apply Kd.N_alloc | apply Kd.N_drewN | apply Kd.N_drew)); exact Kd.N_mono (nF_ (nF_ (nF_ (Kd.N_far (p := ⟨gb493, 2, none⟩) (Kd.N_far (p := ⟨gb493, 1, none⟩) (Kd.N_far (p := ⟨gb493, 0, none⟩) (Kd.N_mono (Kd.N_mono HO487.out (fun k_ hk => (⟨hk, hk.2.2.2.2.2.2.2⟩ : _ ∧ k_ ≠ gb493))) (fun k_ hk => (⟨hk, hk.1.2.2.2.2.2.2.1⟩ : _ ∧ k_ ≠ gb483))) (fun _ hk => hk.1.2) (.slice Ao32 t485.length co32)) (fun _ hk => hk.1.2) (.int .i64 t488)) (fun _ hk => hk.1.2) (.slice Ao35 t489.length co35))))) (fun _ hk => ⟨hk.1.1.2.2.1, ⟨hk.1.1.1, ⟨hk.1.1.2.2.2.2.2.1, hk.1.1.2.2.2.2.2.2.1⟩⟩⟩)⟩, ⟨by (with_reducible repeat (first | apply Kd.R_alloc | apply Kd.R_drewN | apply Kd.R_drew)); exact Kd.R_mono (rF_ (rF_ (rF_ (Kd.R_far (p := ⟨gb493, 2, none⟩) (Kd.R_far (p := ⟨gb493, 1, none⟩) (Kd.R_far (p := ⟨gb493, 0, none⟩) (Kd.R_types (Kd.R_types HO491.out BK493.out (by decide)) BK483.out (by decide)) (fun _ hk => hk.1.2) (.slice Ao32 t485.length co32)) (fun _ hk => hk.1.2) (.int .i64 t488)) (fun _ hk => hk.1.2) (.slice Ao35 t489.length co35))))) (fun _ hk => trivial)⟩, ⟨(bF_ (bF_ (bF_ (bF_ (bF_ (bF_ (hK_ BK481.out) NB481_493.out) NB481_493.out) NB481_493.out) NB481_483.out) NB481_483.out) NB481_483.out)⟩, ⟨(bP_ (bP_ (bP_ (bF_ (bF_ (bF_ (hK_ BK483.out) NB483_493.out) NB483_493.out) NB483_493.out))))⟩, ⟨hC_⟩⟩
 case rest =>
  clear HC8
  try clear c1
  try clear c2
  try clear p2
  try clear c3
  try clear c4
  try clear p4
  try clear q4
  try clear hx4
  try clear p6
  try clear c8
  try clear c13
  try clear c20
  try clear c21
  try clear c22
  try clear c25
  try clear c25b0
  try clear c25b1
  try clear c37
  try clear c38
  try clear c40
  try clear p48
  try clear q48
  try clear hx48
  try clear hcz39_0
  try clear hcz39_1
  try clear hcz39_2
  try clear hcz41_0
  try clear hcz41_1
  try clear hcz41_2
  try clear hfz39_0
  try clear hfz39_1
  try clear hfz39_2
  try clear hfz41_0
  try clear hfz41_1
  try clear hfz41_2
  try clear hx484_0
  try clear p484
  try clear q484
  obtain ⟨kq, x10_7, x484000_7, x484001_7, x484002_7, u484000, u484002, rfl, HA, HJ7, HO_482000, HO_482002, HO_484000, HO_484002, BK481, BK483, HB⟩ := hcut
  cases kq with
  | zero => exact absurd HA.out (by simp [sleuthlaw22_AnswerRow.j2])
  | succ kj7 =>
   have H := HA.out
   clear HA
   simp only [sleuthlaw22_AnswerRow.j2] at H
   have H' := a_ H
   clear H
   go_wp2
   go_loopg [14] kj7 (fun kq v14 w' => ∃ (x14_2 : Int) (x484000_2 : List (S66)) (x484001_2 : Int) (x484002_2 : List (S53)) (u484000 : Value) (u484002 : Value), v14 = .int .i64 x14_2 ∧ Aside0 (sleuthlaw22_AnswerRow.l1 kq x10_7 x14_2 t473 t476 t477 x484000_2 x484001_2 x484002_2 = some r) ∧ Aside0 (kq ≤ kj7) ∧ Aside0 (Kd.N k66 66 w' w.heap.size (fun k_ => some k_ ≠ ((.slice Ao14 t477.length co14) : Value).ownBlock ∧ some k_ ≠ (u484002 : Value).ownBlock ∧ k_ ≠ gb481 ∧ k_ ≠ gb483) (.slice Ao12 t473.length co12) t473) ∧ Aside0 (Kd.R k53 53 w' w.heap.size (fun _ => True) (.slice Ao14 t477.length co14) t477) ∧ Aside0 (Kd.N k66 66 w' w.heap.size (fun k_ => some k_ ≠ ((.slice Ao14 t477.length co14) : Value).ownBlock ∧ some k_ ≠ (u484002 : Value).ownBlock ∧ k_ ≠ gb481 ∧ k_ ≠ gb483) u484000 x484000_2) ∧ Aside0 (Kd.R k53 53 w' w.heap.size (fun _ => True) u484002 x484002_2) ∧ Aside0 (w'.heap[gb481]? = some (.cells #[(.slice Ao12 t473.length co12), .int .i64 t476, (.slice Ao14 t477.length co14)] 25 (0, 0))) ∧ Aside0 (w'.heap[gb483]? = some (.cells #[u484000, .int .i64 x484001_2, u484002] 25 (0, 0))) ∧ Aside0 (Below w.heap.size w w'))
   case atStart => exact ⟨(0), (x484000_7), (x484001_7), (x484002_7), (u484000), (u484002), hW_, H', ⟨Nat.le_refl _⟩, ⟨hN_ HO_482000.out⟩, ⟨hR_ HO_482002.out⟩, ⟨hN_ HO_484000.out⟩, ⟨hR_ HO_484002.out⟩, ⟨(hK_ BK481.out)⟩, ⟨(hK_ BK483.out)⟩, ⟨hC_⟩⟩
   case round =>
    clear H'
    try clear c1
    try clear c2
    try clear p2
    try clear c3
    try clear c4
    try clear p4
    try clear q4
    try clear hx4
    try clear p6
    try clear c8
    try clear c13
    try clear c20
    try clear c21
    try clear c22
    try clear c25
    try clear c25b0
    try clear c25b1
    try clear c37
    try clear c38
    try clear c40
    try clear p48
    try clear q48
    try clear hx48
    try clear hcz39_0
    try clear hcz39_1
    try clear hcz39_2
    try clear hcz41_0
    try clear hcz41_1
    try clear hcz41_2
    try clear hfz39_0
    try clear hfz39_1
    try clear hfz39_2
    try clear hfz41_0
    try clear hfz41_1
    try clear hfz41_2
    try clear hx484_0
    try clear p2
    try clear p4
    try clear p48
    try clear p484
    try clear p6
    try clear q4
    try clear q48
    try clear q484
    obtain ⟨x14_2, x484000_2, x484001_2, x484002_2, u484000, u484002, rfl, HA, HK2, HO_482000, HO_482002, HO_484000, HO_484002, BK481, BK483, HB⟩ := hrel
    cases gk with
    | zero => exact absurd HA.out (by simp [sleuthlaw22_AnswerRow.l1])
    | succ k2 =>
     have H := HA.out
     clear HA
     simp only [sleuthlaw22_AnswerRow.l1] at H
     by_cases c53 : x14_2 < x10_7
     case neg =>
      rw [if_neg c53] at H
      have c53b0 : decide (x14_2 < x10_7) = false := decide_eq_false c53
      clear c53
      replace H := Option.bind_eq_some_iff.mp H
      obtain ⟨t495, A920, H⟩ := H
      try dsimp only at H
      have A92 := a_ A920
      clear A920
      by_cases c93 : t495 = true
      case neg =>
       replace c93 := Bool.eq_false_iff.mpr c93
       subst c93
       rw [if_neg (show ¬ (false = true) by decide)] at H
       cases H
      subst c93
      rw [if_pos rfl] at H
      replace H := Option.bind_eq_some_iff.mp H
      obtain ⟨t496, A940, H⟩ := H
      try dsimp only at H
      have A94 := a_ A940
      clear A940
      obtain rfl := Option.some.inj H
      have hnb95 := NB481_483.out
      have hnc95 := NB483_481.out
      obtain ⟨hcz96_0, hcz96_1, hcz96_2, hfz96_0, hfz96_1, hfz96_2⟩ := bx3_ BK481.out
      obtain ⟨hcz97_0, hcz97_1, hcz97_2, hfz97_0, hfz97_1, hfz97_2⟩ := bx3_ BK483.out
      obtain ⟨Ao98, co98, eo98⟩ := Kd.N_slice HO_484000.out
      subst eo98
      obtain ⟨Ao99, co99, eo99⟩ := Kd.R_slice HO_484002.out
      subst eo99
      go_wp2_with (first | ((with_reducible refine gate_callee (f := 12) rfl ?_); refine goesL_ (some 87) rfl rfl Tryz.func12 (by kernel_rfl) rfl #[.agg #[.slice Ao12 t473.length co12, .int .i64 t476, .slice Ao14 t477.length co14], .agg #[.slice Ao98 x484000_2.length co98, .int .i64 x484001_2, .slice Ao99 x484002_2.length co99]] rfl hL_ ?_; (with_reducible refine (sleuthlaw0_SameSession.calls k2 _ _ t473 t476 _ _ t477 _ _ x484000_2 x484001_2 _ _ x484002_2 true _ ?side1 ?side2 ?side3 ?side4 ?side5 ?side6 ?side7 ?side8 A92.out).mono ?_); (case side1 => repeat (first | exact (Kd.N_reads' HO_482000.out).2.2 | (with_reducible refine Kd.C_alloc ?_ _) | (with_reducible refine Kd.C_drewN ?_ _) | (with_reducible refine Kd.C_drew ?_))); (case side2 => exact (Kd.N_reads' HO_482000.out).2.1); (case side3 => exact cC_ (Kd.R_reads' HO_482002.out).2.2); (case side4 => exact (Kd.R_reads' HO_482002.out).2.1); (case side5 => repeat (first | exact (Kd.N_reads' HO_484000.out).2.2 | (with_reducible refine Kd.C_alloc ?_ _) | (with_reducible refine Kd.C_drewN ?_ _) | (with_reducible refine Kd.C_drew ?_))); (case side6 => exact (Kd.N_reads' HO_484000.out).2.1); (case side7 => exact cC_ (Kd.R_reads' HO_484002.out).2.2); (case side8 => exact (Kd.R_reads' HO_484002.out).2.1); rintro e w100 ⟨rfl, hb⟩; refine ⟨_, rfl, ?_⟩; replace HO_482000 := a_ (Kd.N_below (hN_ HO_482000.out) hb); replace HO_482002 := a_ (Kd.R_below (hR_ HO_482002.out) hb); replace HO_484000 := a_ (Kd.N_below (hN_ HO_484000.out) hb); replace HO_484002 := a_ (Kd.R_below (hR_ HO_484002.out) hb); replace BK481 := a_ (bB_ BK481.out hb); replace BK483 := a_ (bB_ BK483.out hb); replace HB := a_ (below_step hC_ hb); (try clear hb); (try clear hb2); (try clear hk); (try clear hi)) | (go_at_call 19; (with_reducible refine (sleuthlaw22_some.calls  t496 _ A94.out).mono ?_); rintro e w101 ⟨v497, rfl, ho0, hb⟩; have HO498 := a_ (Kd.N_lower (Kd.N_mono (ok' := fun k_ => some k_ ≠ (.slice Ao12 t473.length co12 : Value).ownBlock ∧ some k_ ≠ (.slice Ao14 t477.length co14 : Value).ownBlock ∧ some k_ ≠ (.slice Ao98 x484000_2.length co98 : Value).ownBlock ∧ some k_ ≠ (.slice Ao99 x484002_2.length co99 : Value).ownBlock ∧ k_ ≠ gb481 ∧ k_ ≠ gb483) ho0 (fun k_ hk_ => ⟨(Kd.fresh' (Kd.N_lt (hN_ HO_482000.out)) k_ hk_), (Kd.fresh' (Kd.R_lt (hR_ HO_482002.out)) k_ hk_), (Kd.fresh' (Kd.N_lt (hN_ HO_484000.out)) k_ hk_), (Kd.fresh' (Kd.R_lt (hR_ HO_484002.out)) k_ hk_), (Kd.freshB (g := gb481) (o := .cells #[.slice Ao12 t473.length co12, .int .i64 t476, .slice Ao14 t477.length co14] 25 (0, 0)) (hK_ BK481.out) k_ hk_), (Kd.freshB (g := gb483) (o := .cells #[.slice Ao98 x484000_2.length co98, .int .i64 x484001_2, .slice Ao99 x484002_2.length co99] 25 (0, 0)) (hK_ BK483.out) k_ hk_)⟩)) (below_size hC_)); replace HO_482000 := a_ (Kd.N_elder' (hN_ HO_482000.out) (Kd.N_base ho0) hb); replace HO_482002 := a_ (Kd.R_below (hR_ HO_482002.out) hb); replace HO_484000 := a_ (Kd.N_elder' (hN_ HO_484000.out) (Kd.N_base ho0) hb); replace HO_484002 := a_ (Kd.R_below (hR_ HO_484002.out) hb); replace BK481 := a_ (bB_ BK481.out hb); replace BK483 := a_ (bB_ BK483.out hb); replace HB := a_ (below_step hC_ hb); (try clear hb); (try clear hb2); (try clear hk); (try clear hi); (try clear ho0); obtain ⟨Ao102, co102, eo102⟩ := Kd.N_slice HO498.out; subst eo102))
      go_ret
      exact ⟨hV_, hC_⟩
     rw [if_pos c53] at H
     have c53b0 : decide (x14_2 < x10_7) = true := decide_eq_true c53
     clear c53
     replace H := Option.bind_eq_some_iff.mp H
     obtain ⟨⟨t499, t502, t503, t506⟩, A540, H⟩ := H
     try dsimp only at H
     have A54 := a_ A540
     clear A540
     replace H := Option.bind_eq_some_iff.mp H
     obtain ⟨t508, A550, H⟩ := H
     try dsimp only at H
     have A55 := a_ A550
     clear A550
     by_cases c56 : t508 = 0
     case neg =>
      rw [if_neg c56] at H
      have c56b0 : (t508 == 0) = false := beq_eq_false_iff_ne.mpr c56
      have c56b1 : (t508 != 0) = true := bne_iff_ne.mpr c56
      cases H
     rw [if_pos c56] at H
     have c56b0 : (t508 == 0) = true := beq_iff_eq.mpr c56
     have c56b1 : (t508 != 0) = false := bne_eq_false_iff_eq.mpr c56
     clear c56
     by_cases c57 : (t503.length : Int) = (wrap64 ((wrap64 (x10_7 - 1)) - x14_2))
     case neg =>
      rw [if_neg c57] at H
      have c57b0 : ((t503.length : Int) == (wrap64 ((wrap64 (x10_7 - 1)) - x14_2))) = false := beq_eq_false_iff_ne.mpr c57
      have c57b1 : ((t503.length : Int) != (wrap64 ((wrap64 (x10_7 - 1)) - x14_2))) = true := bne_iff_ne.mpr c57
      (try (have c57b0w := c57b0; try (rw [show wrap64 (x10_7 - 1) = (x10_7 - 1) from by unfold wrap64; omega] at c57b0w); try (rw [show wrap64 ((wrap64 (x10_7 - 1)) - x14_2) = ((wrap64 (x10_7 - 1)) - x14_2) from by unfold wrap64; omega] at c57b0w)))
      (try (have c57b1w := c57b1; try (rw [show wrap64 (x10_7 - 1) = (x10_7 - 1) from by unfold wrap64; omega] at c57b1w); try (rw [show wrap64 ((wrap64 (x10_7 - 1)) - x14_2) = ((wrap64 (x10_7 - 1)) - x14_2) from by unfold wrap64; omega] at c57b1w)))
      cases H
     rw [if_pos c57] at H
     have c57b0 : ((t503.length : Int) == (wrap64 ((wrap64 (x10_7 - 1)) - x14_2))) = true := beq_iff_eq.mpr c57
     have c57b1 : ((t503.length : Int) != (wrap64 ((wrap64 (x10_7 - 1)) - x14_2))) = false := bne_eq_false_iff_eq.mpr c57
     (try (have c57b0w := c57b0; try (rw [show wrap64 (x10_7 - 1) = (x10_7 - 1) from by unfold wrap64; omega] at c57b0w); try (rw [show wrap64 ((wrap64 (x10_7 - 1)) - x14_2) = ((wrap64 (x10_7 - 1)) - x14_2) from by unfold wrap64; omega] at c57b0w)))
     (try (have c57b1w := c57b1; try (rw [show wrap64 (x10_7 - 1) = (x10_7 - 1) from by unfold wrap64; omega] at c57b1w); try (rw [show wrap64 ((wrap64 (x10_7 - 1)) - x14_2) = ((wrap64 (x10_7 - 1)) - x14_2) from by unfold wrap64; omega] at c57b1w)))
     clear c57
     have H' := a_ H
     clear H
     have hnb58 := NB483_481.out
     have hnc58 := NB481_483.out
     obtain ⟨hcz59_0, hcz59_1, hcz59_2, hfz59_0, hfz59_1, hfz59_2⟩ := bx3_ BK483.out
     obtain ⟨Ao60, co60, eo60⟩ := Kd.N_slice HO_484000.out
     subst eo60
     obtain ⟨Ao61, co61, eo61⟩ := Kd.R_slice HO_484002.out
     subst eo61
     go_wp2_with (first | ((with_reducible refine gate_callee (f := 10) rfl ?_); refine goesL_ (some 68) rfl rfl Tryz.func10 (by kernel_rfl) rfl #[.agg #[.slice Ao60 x484000_2.length co60, .int .i64 x484001_2, .slice Ao61 x484002_2.length co61]] rfl hL_ ?_; (with_reducible refine (answer_Undo.calls k2 _ _ x484000_2 x484001_2 _ _ x484002_2 t499 t502 t503 t506 _ ?side1 ?side2 ?side3 ?side4 A54.out (by first | exact hG | exact GOK.below hG hC_)).mono ?_); (case side1 => repeat (first | exact (Kd.N_reads' HO_484000.out).2.2 | (with_reducible refine Kd.C_alloc ?_ _) | (with_reducible refine Kd.C_drewN ?_ _) | (with_reducible refine Kd.C_drew ?_))); (case side2 => exact (Kd.N_reads' HO_484000.out).2.1); (case side3 => exact cC_ (Kd.R_reads' HO_484002.out).2.2); (case side4 => exact (Kd.R_reads' HO_484002.out).2.1); rintro e w62 ⟨v500, v504, rfl, ho0, ho1, hb⟩; refine ⟨_, rfl, ?_⟩; have HO501 := a_ (Kd.N_lower (Kd.N_mono (ok' := fun k_ => some k_ ≠ (v504 : Value).ownBlock ∧ some k_ ≠ (.slice Ao12 t473.length co12 : Value).ownBlock ∧ some k_ ≠ (.slice Ao14 t477.length co14 : Value).ownBlock ∧ some k_ ≠ (.slice Ao60 x484000_2.length co60 : Value).ownBlock ∧ some k_ ≠ (.slice Ao61 x484002_2.length co61 : Value).ownBlock ∧ k_ ≠ gb481 ∧ k_ ≠ gb483) (Kd.S_N (Kd.S_bound (Kd.S_apart' ho0 (Kd.R_typed ho1) (by decide)))) (fun k_ hk_ => ⟨hk_.1.2, (Kd.fresh' (Kd.N_lt (hN_ HO_482000.out)) k_ hk_.2.1), (Kd.fresh' (Kd.R_lt (hR_ HO_482002.out)) k_ hk_.2.1), (Kd.fresh' (Kd.N_lt (hN_ HO_484000.out)) k_ hk_.2.1), (Kd.fresh' (Kd.R_lt (hR_ HO_484002.out)) k_ hk_.2.1), (Kd.freshB (g := gb481) (o := .cells #[.slice Ao12 t473.length co12, .int .i64 t476, .slice Ao14 t477.length co14] 25 (0, 0)) (hK_ BK481.out) k_ hk_.2.1), (Kd.freshB (g := gb483) (o := .cells #[.slice Ao60 x484000_2.length co60, .int .i64 x484001_2, .slice Ao61 x484002_2.length co61] 25 (0, 0)) (hK_ BK483.out) k_ hk_.2.1)⟩)) (below_size hC_)); replace HO_482000 := a_ (Kd.N_mono (Kd.N_told (Kd.N_told (Kd.N_old (hN_ HO_482000.out) hb) (Kd.N_base (Kd.R_N (Kd.S_R ho0)))) (Kd.R_base ho1)) (fun _ h_ => h_.1)); replace HO_484000 := a_ (Kd.N_mono (Kd.N_told (Kd.N_told (Kd.N_old (hN_ HO_484000.out) hb) (Kd.N_base (Kd.R_N (Kd.S_R ho0)))) (Kd.R_base ho1)) (fun _ h_ => h_.1)); have HO505 := a_ (Kd.R_lower (Kd.R_new' (Kd.R_new' ho1 (Kd.R_lt (hR_ HO_482002.out))) (Kd.R_lt (hR_ HO_484002.out))) (below_size hC_)); replace HO_482002 := a_ (Kd.R_elder' (hR_ HO_482002.out) (Kd.R_base ho1) hb); replace HO_484002 := a_ (Kd.R_elder' (hR_ HO_484002.out) (Kd.R_base ho1) hb); replace BK481 := a_ (bB_ BK481.out hb); replace BK483 := a_ (bB_ BK483.out hb); replace HB := a_ (below_step hC_ hb); (try clear hb); (try clear hb2); (try clear hk); (try clear hi); (try clear ho0); (try clear ho1)) | ((with_reducible refine gate_dst (N := 15) rfl ?_); (try (refine gate_guard (by rfl) ?_; dsimp only)); refine boxE_ 15 #[.slice none 0 0, .int .i64 0, .slice none 0 0] 25 ?_; intro gb507 hg w63 hbox hb; replace HO_482000 := a_ (Kd.N_below (Kd.N_elderB (hN_ HO_482000.out) gb507 (Nat.le_of_eq hg.symm)) hb); replace HO_482002 := a_ (Kd.R_below (hR_ HO_482002.out) hb); replace HO_484000 := a_ (Kd.N_below (Kd.N_elderB (hN_ HO_484000.out) gb507 (Nat.le_of_eq hg.symm)) hb); replace HO_484002 := a_ (Kd.R_below (hR_ HO_484002.out) hb); replace HO501 := a_ (Kd.N_below (Kd.N_elderB (hN_ HO501.out) gb507 (Nat.le_of_eq hg.symm)) hb); replace HO505 := a_ (Kd.R_below (hR_ HO505.out) hb); have BK507 := a_ (hbox); have GW507 := a_ ((gE_ hg : w.heap.size ≤ gb507)); have GE507 := a_ ((gE_ hg : w.heap.size ≤ gb507)); replace HB := a_ (below_step hC_ hb); have NB481_507 := a_ ((bL_ BK481.out hg : gb481 ≠ gb507)); have NB507_481 := a_ ((bG_ BK481.out hg : gb507 ≠ gb481)); replace BK481 := a_ (bB_ BK481.out hb); have NB483_507 := a_ ((bL_ BK483.out hg : gb483 ≠ gb507)); have NB507_483 := a_ ((bG_ BK483.out hg : gb507 ≠ gb483)); replace BK483 := a_ (bB_ BK483.out hb); clear hb hbox hg; obtain ⟨Ao64, co64, eo64⟩ := Kd.N_slice HO501.out; subst eo64; have hnb65 := NB507_481.out; have hnc65 := NB481_507.out; have hnb66 := NB507_483.out; have hnc66 := NB483_507.out; obtain ⟨hcz67_0, hcz67_1, hcz67_2, hfz67_0, hfz67_1, hfz67_2⟩ := bx3_ BK507.out; obtain ⟨Ao68, co68, eo68⟩ := Kd.R_slice HO505.out; subst eo68) | ((with_reducible refine gate_callee (f := 13) rfl ?_); refine goesL_ _ rfl rfl Tryz.func13 (by kernel_rfl) rfl #[.int .i64 t506] rfl hL_ ?_; (with_reducible refine (sleuthlaw0_Num.calls t506 t508 _ A55.out).mono ?_); rintro e w' ⟨rfl, ⟨nd, rfl⟩⟩; refine ⟨_, rfl, ?_⟩; obtain ⟨hcz69_0, hcz69_1, hcz69_2, hfz69_0, hfz69_1, hfz69_2⟩ := bx3_ BK483.out))
     go_roundg k2
     case measure => have := HJ7.out; have := HK2.out; omega
     case rel => exact ⟨(wrap64 (x14_2 + 1)), (t499), (t502), (t503), (.slice Ao64 t499.length co64), (.slice Ao68 t503.length co68), hW_, H', ⟨by have := HJ7.out; have := HK2.out; omega⟩, ⟨by (with_reducible repeat (first | apply Kd.N_alloc | apply Kd.N_drewN | apply Kd.N_drew)); exact Kd.N_mono (nF_ (nF_ (nF_ (Kd.N_far (p := ⟨gb507, 2, none⟩) (Kd.N_far (p := ⟨gb507, 1, none⟩) (Kd.N_far (p := ⟨gb507, 0, none⟩) (Kd.N_mono (Kd.N_mono HO_482000.out (fun k_ hk => (⟨hk, hk.2⟩ : _ ∧ k_ ≠ gb507))) (fun k_ hk => (⟨hk, hk.1.1.1.1.2.2.2⟩ : _ ∧ k_ ≠ gb483))) (fun _ hk => hk.1.2) (.slice Ao64 t499.length co64)) (fun _ hk => hk.1.2) (.int .i64 t502)) (fun _ hk => hk.1.2) (.slice Ao68 t503.length co68))))) (fun _ hk => ⟨hk.1.1.1.1.1.1, ⟨hk.1.1.1.2, ⟨hk.1.1.1.1.1.2.2.1, hk.1.1.1.1.1.2.2.2⟩⟩⟩)⟩, ⟨by (with_reducible repeat (first | apply Kd.R_alloc | apply Kd.R_drewN | apply Kd.R_drew)); exact Kd.R_mono (rF_ (rF_ (rF_ (Kd.R_far (p := ⟨gb507, 2, none⟩) (Kd.R_far (p := ⟨gb507, 1, none⟩) (Kd.R_far (p := ⟨gb507, 0, none⟩) (Kd.R_types (Kd.R_types HO_482002.out BK507.out (by decide)) BK483.out (by decide)) (fun _ hk => hk.1.2) (.slice Ao64 t499.length co64)) (fun _ hk => hk.1.2) (.int .i64 t502)) (fun _ hk => hk.1.2) (.slice Ao68 t503.length co68))))) (fun _ hk => trivial)⟩, ⟨by (with_reducible repeat (first | apply Kd.N_alloc | apply Kd.N_drewN | apply Kd.N_drew)); exact Kd.N_mono (nF_ (nF_ (nF_ (Kd.N_far (p := ⟨gb507, 2, none⟩) (Kd.N_far (p := ⟨gb507, 1, none⟩) (Kd.N_far (p := ⟨gb507, 0, none⟩) (Kd.N_mono (Kd.N_mono HO501.out (fun k_ hk => (⟨hk, hk.2⟩ : _ ∧ k_ ≠ gb507))) (fun k_ hk => (⟨hk, hk.1.1.2.2.2.2.2.2⟩ : _ ∧ k_ ≠ gb483))) (fun _ hk => hk.1.2) (.slice Ao64 t499.length co64)) (fun _ hk => hk.1.2) (.int .i64 t502)) (fun _ hk => hk.1.2) (.slice Ao68 t503.length co68))))) (fun _ hk => ⟨hk.1.1.1.2.2.1, ⟨hk.1.1.1.1, ⟨hk.1.1.1.2.2.2.2.2.1, hk.1.1.1.2.2.2.2.2.2⟩⟩⟩)⟩, ⟨by (with_reducible repeat (first | apply Kd.R_alloc | apply Kd.R_drewN | apply Kd.R_drew)); exact Kd.R_mono (rF_ (rF_ (rF_ (Kd.R_far (p := ⟨gb507, 2, none⟩) (Kd.R_far (p := ⟨gb507, 1, none⟩) (Kd.R_far (p := ⟨gb507, 0, none⟩) (Kd.R_types (Kd.R_types HO505.out BK507.out (by decide)) BK483.out (by decide)) (fun _ hk => hk.1.2) (.slice Ao64 t499.length co64)) (fun _ hk => hk.1.2) (.int .i64 t502)) (fun _ hk => hk.1.2) (.slice Ao68 t503.length co68))))) (fun _ hk => trivial)⟩, ⟨(bF_ (bF_ (bF_ (bF_ (bF_ (bF_ (hK_ BK481.out) NB481_507.out) NB481_507.out) NB481_507.out) NB481_483.out) NB481_483.out) NB481_483.out)⟩, ⟨(bP_ (bP_ (bP_ (bF_ (bF_ (bF_ (hK_ BK483.out) NB483_507.out) NB483_507.out) NB483_507.out))))⟩, ⟨hC_⟩⟩
end Go.Proofs.YtbnljapgnfmmoaaGreatDoor.G
