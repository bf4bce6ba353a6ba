-- Laid by the session's own driver gp.py over the kit's printer. Not trusted: Lean checks it.
import Derived.Test.YtgokcaccamfgfaaGreatDoorU2
import Derived.Test.YtgokcaccamfgfaaGreatDoorG0
import Derived.Test.YtgokcaccamfgfaaGreatDoorU12
import Derived.Test.YtgokcaccamfgfaaGreatDoorU13
namespace Go.Proofs.YtgokcaccamfgfaaGreatDoor.G
open Go.RowKit Go.Proofs.YtgokcaccamfgfaaGreatDoorW.PrintWords Go.Proofs.YtgokcaccamfgfaaGreatDoorW.PrintLast Go.Proofs.YtgokcaccamfgfaaGreatDoorW.PrintMore
set_option maxHeartbeats 8000000
set_option maxRecDepth 100000
attribute [local go_sem] max2_int min2_int max_two min_two max_three min_three max_four min_four   -- for this text's walks alone
set_option linter.unusedVariables false
set_option linter.unusedSimpArgs false

-- NOT PRINTED: function 5 (sleuthlaw21_Sessions)

def sleuthlaw21_SessionOnce.l0 : Nat → List Bool → Int → List (S64) → Int → List (S46) → Option (Bool)
 | 0, _, _, _, _, _ => none
 | k + 1, x3, x4, x657000, x657001, x657002 => if x4 < (x657002.length : Int) then (if 0 ≤ x4 then (if ((rd_T46 x657002 x4).f0) < 0 then (none) else (if ((rd_T46 x657002 x4).f0) ≥ (x3.length : Int) then (none) else (if 0 ≤ ((rd_T46 x657002 x4).f0) then (if ((rd_T46 x657002 x4).f0) < (x3.length : Int) then (if rdOf false x3 ((rd_T46 x657002 x4).f0) = true then (none) else (sleuthlaw21_SessionOnce.l0 k (x3.set (((rd_T46 x657002 x4).f0) : Int).toNat true) (wrap64 (x4 + 1)) x657000 x657001 x657002)) else (none)) else (none)))) else (none)) else (some (decide ((x657002.length : Int) ≤ (x657000.length : Int))))
def sleuthlaw21_SessionOnce.f (k : Nat) (l0_0 : List (S64)) (a0_1 : Int) (l0_2 : List (S46)) : Option (Bool) := (sleuthlaw21_awake.f k).bind fun t657 => (if t657 = true then ((session_May.f k l0_0 a0_1 l0_2).bind fun t658 => (if t658 = true then (if 0 ≤ (l0_0.length : Int) then (if ((l0_0.length : Int) : Int).toNat ≤ 281474976710656 then (sleuthlaw21_SessionOnce.l0 k (List.replicate ((l0_0.length : Int) : Int).toNat false) 0 l0_0 a0_1 l0_2) else (none)) else (none)) else ((sleuthref12_SessionMay.f k l0_0 a0_1 l0_2).bind fun t659 => (some (!t659))))) else (none))
theorem sleuthlaw21_SessionOnce.mono_l : ∀ k, (∀ y0 y1 y2 y3 y4, LeO (sleuthlaw21_SessionOnce.l0 k y0 y1 y2 y3 y4) (sleuthlaw21_SessionOnce.l0 (k + 1) y0 y1 y2 y3 y4))
 | 0 => fun _ _ _ _ _ r h => by simp [sleuthlaw21_SessionOnce.l0] at h
 | k + 1 => by
  have ih0 := sleuthlaw21_SessionOnce.mono_l k
  · intro y0 y1 y2 y3 y4
    unfold sleuthlaw21_SessionOnce.l0
    repeat' first
    | (with_reducible exact ih0 _ _ _ _ _)
    | (with_reducible exact session_May.mono _ _ _ _)
    | (with_reducible exact sleuthlaw21_awake.mono _)
    | (with_reducible exact sleuthref12_SessionMay.mono _ _ _ _)
    | (with_reducible exact LeO.refl _)
    | (with_reducible exact LeO.none _)
    | (with_reducible refine LeO.ite ?_ ?_)
    | (with_reducible refine LeO.bind ?_ (fun _ => ?_))
    | exact ih0 _ _ _ _ _
    | exact session_May.mono _ _ _ _
    | exact sleuthlaw21_awake.mono _
    | exact sleuthref12_SessionMay.mono _ _ _ _
    | exact LeO.none _
    | refine LeO.ite ?_ ?_
    | refine LeO.bind ?_ (fun _ => ?_)
theorem sleuthlaw21_SessionOnce.mono : ∀ a0 a1 a2 k, LeO (sleuthlaw21_SessionOnce.f k a0 a1 a2) (sleuthlaw21_SessionOnce.f (k + 1) a0 a1 a2) := by
 intro a0 a1 a2 k
 have ih0 := sleuthlaw21_SessionOnce.mono_l k
 unfold sleuthlaw21_SessionOnce.f
 repeat' first
  | (with_reducible exact ih0 _ _ _ _ _)
  | (with_reducible exact session_May.mono _ _ _ _)
  | (with_reducible exact sleuthlaw21_awake.mono _)
  | (with_reducible exact sleuthref12_SessionMay.mono _ _ _ _)
  | (with_reducible exact LeO.refl _)
  | (with_reducible exact LeO.none _)
  | (with_reducible refine LeO.ite ?_ ?_)
  | (with_reducible refine LeO.bind ?_ (fun _ => ?_))
  | exact ih0 _ _ _ _ _
  | exact session_May.mono _ _ _ _
  | exact sleuthlaw21_awake.mono _
  | exact sleuthref12_SessionMay.mono _ _ _ _
  | exact LeO.none _
  | refine LeO.ite ?_ ?_
  | refine LeO.bind ?_ (fun _ => ?_)
theorem sleuthlaw21_SessionOnce.calls (k : Nat) (A0_0 : Option Addr) (c0_0 : Nat) (l0_0 : List (S64)) (a0_1 : Int) (A0_2 : Option Addr) (c0_2 : Nat) (l0_2 : List (S46)) (r : Bool) (w : World) (hr0_0 : Kd.C k64 w A0_0 l0_0.length l0_0) (hc0_0 : l0_0.length ≤ c0_0) (hr0_2 : Kd.C k46 w A0_2 l0_2.length l0_2) (hc0_2 : l0_2.length ≤ c0_2) (h : sleuthlaw21_SessionOnce.f k l0_0 a0_1 l0_2 = some r) (hG : GOK w) :
 Calls Tryz.prog 6 #[.agg #[.slice A0_0 l0_0.length c0_0, .int .i64 a0_1, .slice A0_2 l0_2.length c0_2]] w fun e w' => e = .returned (.bool r) ∧ Below w.heap.size w w' := by
 have hu25 := Tryz.underlying25
 have HR0_0 := a_ hr0_0
 have HC0_0 := a_ hc0_0
 clear hr0_0 hc0_0
 have HR0_2 := a_ hr0_2
 have HC0_2 := a_ hc0_2
 clear hr0_2 hc0_2
 have HB := a_ (Below.refl w.heap.size w)
 have H : ((sleuthlaw21_awake.f k).bind fun t657 => (if t657 = true then ((session_May.f k l0_0 a0_1 l0_2).bind fun t658 => (if t658 = true then (if 0 ≤ (l0_0.length : Int) then (if ((l0_0.length : Int) : Int).toNat ≤ 281474976710656 then (sleuthlaw21_SessionOnce.l0 k (List.replicate ((l0_0.length : Int) : Int).toNat false) 0 l0_0 a0_1 l0_2) else (none)) else (none)) else ((sleuthref12_SessionMay.f k l0_0 a0_1 l0_2).bind fun t659 => (some (!t659))))) else (none))) = some r := h
 clear h
 replace H := Option.bind_eq_some_iff.mp H
 obtain ⟨t657, A20, H⟩ := H
 replace H : (if t657 = true then ((session_May.f k l0_0 a0_1 l0_2).bind fun t658 => (if t658 = true then (if 0 ≤ (l0_0.length : Int) then (if ((l0_0.length : Int) : Int).toNat ≤ 281474976710656 then (sleuthlaw21_SessionOnce.l0 k (List.replicate ((l0_0.length : Int) : Int).toNat false) 0 l0_0 a0_1 l0_2) else (none)) else (none)) else ((sleuthref12_SessionMay.f k l0_0 a0_1 l0_2).bind fun t659 => (some (!t659))))) else (none)) = some r := H
 have A2 := a_ A20
 clear A20
 by_cases c3 : t657 = true
 case neg =>
  replace c3 := Bool.eq_false_iff.mpr c3
  subst c3
  have H1 : (none) = some r := by rw [if_neg (show ¬ (false = true) by decide)] at H; exact H
  clear H
  have H := H1
  clear H1
  cases H
 subst c3
 have H1 : ((session_May.f k l0_0 a0_1 l0_2).bind fun t658 => (if t658 = true then (if 0 ≤ (l0_0.length : Int) then (if ((l0_0.length : Int) : Int).toNat ≤ 281474976710656 then (sleuthlaw21_SessionOnce.l0 k (List.replicate ((l0_0.length : Int) : Int).toNat false) 0 l0_0 a0_1 l0_2) else (none)) else (none)) else ((sleuthref12_SessionMay.f k l0_0 a0_1 l0_2).bind fun t659 => (some (!t659))))) = some r := by rw [if_pos rfl] at H; exact H
 clear H
 have H := H1
 clear H1
 replace H := Option.bind_eq_some_iff.mp H
 obtain ⟨t658, A40, H⟩ := H
 replace H : (if t658 = true then (if 0 ≤ (l0_0.length : Int) then (if ((l0_0.length : Int) : Int).toNat ≤ 281474976710656 then (sleuthlaw21_SessionOnce.l0 k (List.replicate ((l0_0.length : Int) : Int).toNat false) 0 l0_0 a0_1 l0_2) else (none)) else (none)) else ((sleuthref12_SessionMay.f k l0_0 a0_1 l0_2).bind fun t659 => (some (!t659)))) = some r := H
 have A4 := a_ A40
 clear A40
 by_cases c5 : t658 = true
 case neg =>
  replace c5 := Bool.eq_false_iff.mpr c5
  subst c5
  have H1 : ((sleuthref12_SessionMay.f k l0_0 a0_1 l0_2).bind fun t659 => (some (!t659))) = some r := by rw [if_neg (show ¬ (false = true) by decide)] at H; exact H
  clear H
  have H := H1
  clear H1
  replace H := Option.bind_eq_some_iff.mp H
  obtain ⟨t659, A340, H⟩ := H
  replace H : (some (!t659)) = some r := H
  have A34 := a_ A340
  clear A340
  obtain rfl := Option.some.inj H
  go_enter Tryz.func6, Tryz.ntmps6
  go_wp2_with (first | ((with_reducible refine gate_dst (N := 1) rfl ?_); (try (refine gate_guard (by rfl) ?_; dsimp only)); refine boxE_ 1 #[.slice A0_0 l0_0.length c0_0, .int .i64 a0_1, .slice A0_2 l0_2.length c0_2] 25 ?_; intro gb656 hg w35 hbox hb; have BK656 := a_ (hbox); have GW656 := a_ ((gE_ hg : w.heap.size ≤ gb656)); have GE656 := a_ ((gE_ hg : w.heap.size ≤ gb656)); replace HB := a_ (below_step hB_ hb); clear hb hbox hg) | ((with_reducible refine gate_callee (f := 23) rfl ?_); refine goesL_ (some 6) rfl rfl Tryz.func23 (by kernel_rfl) rfl #[] rfl hL_ ?_; (with_reducible refine (sleuthlaw21_awake.calls k  true _ A2.out (by first | exact hG | exact GOK.below hG hC_)).mono ?_); rintro e w36 ⟨rfl, hb⟩; refine ⟨_, rfl, ?_⟩; replace BK656 := a_ (bB_ BK656.out hb); replace HB := a_ (below_step hC_ hb); (try clear hb); (try clear hb2); (try clear hk); (try clear hi); obtain ⟨hcz37_0, hcz37_1, hcz37_2, hfz37_0, hfz37_1, hfz37_2⟩ := bx3_ BK656.out) | ((with_reducible refine gate_callee (f := 20) rfl ?_); refine goesL_ (some 9) rfl rfl Tryz.func20 (by kernel_rfl) rfl #[.agg #[.slice A0_0 l0_0.length c0_0, .int .i64 a0_1, .slice A0_2 l0_2.length c0_2]] rfl hL_ ?_; (with_reducible refine (session_May.calls k _ _ l0_0 a0_1 _ _ l0_2 false _ ?side1 ?side2 ?side3 ?side4 A4.out (by first | exact hG | exact GOK.below hG hC_)).mono ?_); (case side1 => exact cB_ HR0_0.out); (case side2 => exact HC0_0.out); (case side3 => exact cB_ HR0_2.out); (case side4 => exact HC0_2.out); rintro e w38 ⟨rfl, hb⟩; refine ⟨_, rfl, ?_⟩; replace BK656 := a_ (bB_ BK656.out hb); replace HB := a_ (below_step hC_ hb); (try clear hb); (try clear hb2); (try clear hk); (try clear hi); obtain ⟨hcz39_0, hcz39_1, hcz39_2, hfz39_0, hfz39_1, hfz39_2⟩ := bx3_ BK656.out) | ((with_reducible refine gate_callee (f := 21) rfl ?_); refine goesL_ (some 12) rfl rfl Tryz.func21 (by kernel_rfl) rfl #[.agg #[.slice A0_0 l0_0.length c0_0, .int .i64 a0_1, .slice A0_2 l0_2.length c0_2]] rfl hL_ ?_; (with_reducible refine (sleuthref12_SessionMay.calls k _ _ l0_0 a0_1 _ _ l0_2 t659 _ ?side1 ?side2 ?side3 ?side4 A34.out).mono ?_); (case side1 => exact cB_ HR0_0.out); (case side2 => exact HC0_0.out); (case side3 => exact cB_ HR0_2.out); (case side4 => exact HC0_2.out); rintro e w40 ⟨rfl, hb⟩; refine ⟨_, rfl, ?_⟩; replace BK656 := a_ (bB_ BK656.out hb); replace HB := a_ (below_step hC_ hb); (try clear hb); (try clear hb2); (try clear hk); (try clear hi)))
  go_ret
  exact ⟨hV_, hC_⟩
 subst c5
 have H1 : (if 0 ≤ (l0_0.length : Int) then (if ((l0_0.length : Int) : Int).toNat ≤ 281474976710656 then (sleuthlaw21_SessionOnce.l0 k (List.replicate ((l0_0.length : Int) : Int).toNat false) 0 l0_0 a0_1 l0_2) else (none)) else (none)) = some r := by rw [if_pos rfl] at H; exact H
 clear H
 have H := H1
 clear H1
 replace H := ifI_ H; obtain ⟨c6, H⟩ := H
 have c6b0 := eq_true c6
 have c6b1 : decide (0 ≤ (l0_0.length : Int)) = true := decide_eq_true c6
 clear c6
 replace H := ifI_ H; obtain ⟨c7, H⟩ := H
 have c7b0 := eq_true c7
 have c7b1 : decide (((l0_0.length : Int) : Int).toNat ≤ 281474976710656) = true := decide_eq_true c7
 clear c7
 obtain ⟨y660, hy660⟩ : ∃ y_ : List Bool, y_ = (List.replicate ((l0_0.length : Int) : Int).toNat false) := ⟨_, rfl⟩
 replace H : (sleuthlaw21_SessionOnce.l0 k y660 0 l0_0 a0_1 l0_2) = some r := by first | (rw [hy660]; with_reducible exact H) | (have H2_ := (Option.bind_some _ _).symm.trans H; rw [hy660]; with_reducible exact H2_) | (have H2_ := (Option.bind_some _ _).symm.trans H; with_reducible exact H2_) | with_reducible exact H | (rw [hy660]; exact H) | exact H
 have Ny660 := a_ hy660
 clear hy660
 have H' := a_ H
 clear H
 go_enter Tryz.func6, Tryz.ntmps6
 go_wp2_with (first | ((with_reducible refine gate_dst (N := 1) rfl ?_); (try (refine gate_guard (by rfl) ?_; dsimp only)); refine boxE_ 1 #[.slice A0_0 l0_0.length c0_0, .int .i64 a0_1, .slice A0_2 l0_2.length c0_2] 25 ?_; intro gb656 hg w8 hbox hb; have BK656 := a_ (hbox); have GW656 := a_ ((gE_ hg : w.heap.size ≤ gb656)); have GE656 := a_ ((gE_ hg : w.heap.size ≤ gb656)); replace HB := a_ (below_step hB_ hb); clear hb hbox hg) | ((with_reducible refine gate_callee (f := 23) rfl ?_); refine goesL_ (some 6) rfl rfl Tryz.func23 (by kernel_rfl) rfl #[] rfl hL_ ?_; (with_reducible refine (sleuthlaw21_awake.calls k  true _ A2.out (by first | exact hG | exact GOK.below hG hC_)).mono ?_); rintro e w9 ⟨rfl, hb⟩; refine ⟨_, rfl, ?_⟩; replace BK656 := a_ (bB_ BK656.out hb); replace HB := a_ (below_step hC_ hb); (try clear hb); (try clear hb2); (try clear hk); (try clear hi); obtain ⟨hcz10_0, hcz10_1, hcz10_2, hfz10_0, hfz10_1, hfz10_2⟩ := bx3_ BK656.out) | ((with_reducible refine gate_callee (f := 20) rfl ?_); refine goesL_ (some 9) rfl rfl Tryz.func20 (by kernel_rfl) rfl #[.agg #[.slice A0_0 l0_0.length c0_0, .int .i64 a0_1, .slice A0_2 l0_2.length c0_2]] rfl hL_ ?_; (with_reducible refine (session_May.calls k _ _ l0_0 a0_1 _ _ l0_2 true _ ?side1 ?side2 ?side3 ?side4 A4.out (by first | exact hG | exact GOK.below hG hC_)).mono ?_); (case side1 => exact cB_ HR0_0.out); (case side2 => exact HC0_0.out); (case side3 => exact cB_ HR0_2.out); (case side4 => exact HC0_2.out); rintro e w11 ⟨rfl, hb⟩; refine ⟨_, rfl, ?_⟩; replace BK656 := a_ (bB_ BK656.out hb); replace HB := a_ (below_step hC_ hb); (try clear hb); (try clear hb2); (try clear hk); (try clear hi); obtain ⟨hcz12_0, hcz12_1, hcz12_2, hfz12_0, hfz12_1, hfz12_2⟩ := bx3_ BK656.out) | ((with_reducible refine gate_dst (N := 17) rfl ?_); (try (refine gate_guard (by rfl) ?_; dsimp only)); refine Kd.R_make Kd.bool _ 4 rfl (N := 17) rfl 53 _ _ rfl (l0_0.length : Int) rfl rfl Tryz.underlying53 (.bool false) 1 info4 rfl (by decide) (by omega) false (ok := fun _ => True) (okp := fun _ => True) rfl (fun _ hk => hk) trivial (of_decide_eq_true hA_) (Nat.le_trans (Nat.mul_le_mul_right _ (of_decide_eq_true hA_ : (l0_0.length : Int).toNat ≤ 281474976710656)) (by omega)) (Below.refl _ _) (Nat.le_refl _) ?_; intro v661 w13 ho14 hb hg_ hnew_; clear hg_ hnew_; (first | rw [← Ny660.out] at ho14 | (simp only [Int.reduceToNat] at ho14; rw [← Ny660.out] at ho14)); have HO662 := a_ (Kd.R_lower ho14 (below_size hC_)); replace BK656 := a_ (bB_ BK656.out hb); replace HB := a_ (below_step hC_ hb); clear hb ho14))
 (try simp only [Act.put, List.setIfInBounds_toArray, List.set_cons_zero, List.set_cons_succ])
 go_loopg [4] k (fun kq v4 w' => ∃ (x3_1 : List Bool) (x4_1 : Int), v4 = .int .i64 x4_1 ∧ Aside0 (sleuthlaw21_SessionOnce.l0 kq x3_1 x4_1 l0_0 a0_1 l0_2 = some r) ∧ Aside0 (kq ≤ k) ∧ Aside0 (Kd.R Kd.bool 4 w' w.heap.size (fun _ => True) v661 x3_1) ∧ Aside0 (w'.heap[gb656]? = some (.cells #[(.slice A0_0 l0_0.length c0_0), .int .i64 a0_1, (.slice A0_2 l0_2.length c0_2)] 25 (0, 0))) ∧ Aside0 (Below w.heap.size w w'))
 case atStart => exact ⟨(y660), (0), hW_, H', ⟨Nat.le_refl _⟩, ⟨hR_ HO662.out⟩, ⟨(hK_ BK656.out)⟩, ⟨hC_⟩⟩
 case round =>
  clear H'
  try clear c2
  try clear p2
  try clear c3
  try clear c5
  try clear c6
  try clear c6b0
  try clear c6b1
  try clear c7
  try clear c7b0
  try clear c7b1
  try clear hcz10_0
  try clear hcz10_1
  try clear hcz10_2
  try clear hcz12_0
  try clear hcz12_1
  try clear hcz12_2
  try clear hfz10_0
  try clear hfz10_1
  try clear hfz10_2
  try clear hfz12_0
  try clear hfz12_1
  try clear hfz12_2
  obtain ⟨x3_1, x4_1, rfl, HA, HK1, HO_3, BK656, HB⟩ := hrel
  cases gk with
  | zero => exact absurd HA.out (by simp [sleuthlaw21_SessionOnce.l0])
  | succ k1 =>
   have H := HA.out
   clear HA
   simp only [sleuthlaw21_SessionOnce.l0] at H
   by_cases c15 : x4_1 < (l0_2.length : Int)
   case neg =>
    rw [if_neg c15] at H
    have c15b0 : decide (x4_1 < (l0_2.length : Int)) = false := decide_eq_false c15
    clear c15
    obtain rfl := Option.some.inj H
    obtain ⟨hcz33_0, hcz33_1, hcz33_2, hfz33_0, hfz33_1, hfz33_2⟩ := bx3_ BK656.out
    go_wp2
    go_ret
    exact ⟨hV_, hC_⟩
   rw [if_pos c15] at H
   have c15b0 : decide (x4_1 < (l0_2.length : Int)) = true := decide_eq_true c15
   clear c15
   replace H := ifI_ H; obtain ⟨c16, H⟩ := H
   have c16b0 : decide (0 ≤ x4_1) = true := decide_eq_true c16
   clear c16
   by_cases c17 : ((rd_T46 l0_2 x4_1).f0) < 0
   case pos =>
    rw [if_pos c17] at H
    have c17b0 : decide (((rd_T46 l0_2 x4_1).f0) < 0) = true := decide_eq_true c17
    clear c17
    cases H
   rw [if_neg c17] at H
   have c17b0 : decide (((rd_T46 l0_2 x4_1).f0) < 0) = false := decide_eq_false c17
   clear c17
   by_cases c19 : ((rd_T46 l0_2 x4_1).f0) ≥ (x3_1.length : Int)
   case pos =>
    rw [if_pos c19] at H
    have c19b0 : decide ((x3_1.length : Int) ≤ ((rd_T46 l0_2 x4_1).f0)) = true := decide_eq_true c19
    clear c19
    cases H
   rw [if_neg c19] at H
   have c19b0 : decide ((x3_1.length : Int) ≤ ((rd_T46 l0_2 x4_1).f0)) = false := decide_eq_false c19
   clear c19
   replace H := ifI_ H; obtain ⟨c22, H⟩ := H
   have c22b0 : decide (0 ≤ ((rd_T46 l0_2 x4_1).f0)) = true := decide_eq_true c22
   clear c22
   replace H := ifI_ H; obtain ⟨c23, H⟩ := H
   have c23b0 : decide (((rd_T46 l0_2 x4_1).f0) < (x3_1.length : Int)) = true := decide_eq_true c23
   clear c23
   obtain ⟨bq24, hbq24⟩ : ∃ b_ : Bool, b_ = (rdOf false x3_1 ((rd_T46 l0_2 x4_1).f0)) := ⟨_, rfl⟩
   replace H : (if bq24 = true then (none) else (sleuthlaw21_SessionOnce.l0 k1 (x3_1.set (((rd_T46 l0_2 x4_1).f0) : Int).toNat true) (wrap64 (x4_1 + 1)) l0_0 a0_1 l0_2)) = some r := by rw [← hbq24] at H; exact H
   have Nbq24 := a_ hbq24
   clear hbq24
   by_cases c25 : bq24 = true
   case pos =>
    subst c25
    have H1 : (none) = some r := by rw [if_pos rfl] at H; exact H
    clear H
    have H := H1
    clear H1
    cases H
   replace c25 := Bool.eq_false_iff.mpr c25
   subst c25
   have H1 : (sleuthlaw21_SessionOnce.l0 k1 (x3_1.set (((rd_T46 l0_2 x4_1).f0) : Int).toNat true) (wrap64 (x4_1 + 1)) l0_0 a0_1 l0_2) = some r := by rw [if_neg (show ¬ (false = true) by decide)] at H; exact H
   clear H
   have H := H1
   clear H1
   obtain ⟨y665, hy665⟩ : ∃ y_ : List Bool, y_ = (x3_1.set (((rd_T46 l0_2 x4_1).f0) : Int).toNat true) := ⟨_, rfl⟩
   replace H : (sleuthlaw21_SessionOnce.l0 k1 y665 (wrap64 (x4_1 + 1)) l0_0 a0_1 l0_2) = some r := by first | (rw [hy665]; with_reducible exact H) | (have H2_ := (Option.bind_some _ _).symm.trans H; rw [hy665]; with_reducible exact H2_) | (have H2_ := (Option.bind_some _ _).symm.trans H; with_reducible exact H2_) | with_reducible exact H | (rw [hy665]; exact H) | exact H
   have Ny665 := a_ hy665
   clear hy665
   have H' := a_ H
   clear H
   obtain ⟨hcz29_0, hcz29_1, hcz29_2, hfz29_0, hfz29_1, hfz29_2⟩ := bx3_ BK656.out
   have p663 : 0 ≤ (x4_1 : Int) := of_decide_eq_true hA_
   have q663 : x4_1 < (l0_2.length : Int) := of_decide_eq_true hA_
   obtain ⟨ad663, e663, hx663_0, hx663_1⟩ := at_T46 HR0_2.out x4_1 p663 q663
   cases e663
   replace hx663_0 := cl_ HB.out hx663_0
   replace hx663_1 := cl_ HB.out hx663_1
   replace p663 := eq_true p663
   replace q663 := eq_true q663
   obtain ⟨Ao30, co30, eo30⟩ := Kd.R_slice HO_3.out
   subst eo30
   have p664 : 0 ≤ (((rd_T46 l0_2 x4_1).f0) : Int) := of_decide_eq_true hA_
   have q664 : ((rd_T46 l0_2 x4_1).f0) < (x3_1.length : Int) := of_decide_eq_true hA_
   obtain ⟨ad664, e664, hx664_0⟩ := Kd.at_bool (Kd.R_reads' HO_3.out).2.2 ((rd_T46 l0_2 x4_1).f0) p664 q664
   (try rw [← Nbq24.out] at hx664_0)
   cases e664
   replace p664 := eq_true p664
   replace q664 := eq_true q664
   have p28 : 0 ≤ (((rd_T46 l0_2 x4_1).f0) : Int) := of_decide_eq_true hA_
   have q28 : (((rd_T46 l0_2 x4_1).f0) : Int) < ((x3_1.length : Int) : Int) := of_decide_eq_true hA_
   obtain ⟨go28, co28, eo28, gb28, gl28, cl28, HG28⟩ := Kd.R_form HO_3.out (by omega)
   (first | cases eo28 | (injection eo28 with ea_ en_ ec_; (first | subst ea_ | (injection ea_ with ea_; subst ea_)); subst ec_; clear en_))
   have GB28 := a_ gb28
   have GG28 := a_ HG28
   clear gb28 gl28 HG28
   (first | simp only [add_plain] at hx664_0 | skip)
   obtain ⟨hx28_0, hf28_0⟩ := Kd.R_celln false HO_3.out (((rd_T46 l0_2 x4_1).f0) : Int) p28 q28
   replace p28 := eq_true p28
   replace q28 := eq_true q28
   have HP31 := Kd.R_putg HO_3.out (((rd_T46 l0_2 x4_1).f0) : Int) true
   go_wp2_with (first | ((with_reducible refine gate_store (t := 4) (p := 47) rfl ?_); refine store_event (t := 4) (p := 47) (v := ?vo_w32) (w1 := (wr.setCell ⟨go28, (((rd_T46 l0_2 x4_1).f0) : Int).toNat, none⟩ (.bool true))) ?hg ?ho ?hn ?hr ?_; (case ho => rfl); (case hg => rfl); (case hn => rfl); (case hr => first | (go_simp; done) | (go_simp; rfl)); intro w32 hw; have hg : wr.grownBy w32 (some go28) := (by rw [hw]; exact HP31.2); have hp_ : Kd.R Kd.bool 4 w32 w.heap.size (fun _ => True) (.slice (some ⟨go28, 0, none⟩) x3_1.length co30) y665 := (by rw [hw, Ny665.out]; exact HP31.1); clear HP31; replace BK656 := a_ (blk_grown (hK_ BK656.out) hg (Kd.R_ne HO_3.out BK656.out (by decide))); replace HO_3 := a_ (hp_); replace HB := a_ ((by rw [hw]; exact below_set (HB.out) GB28.out : Below w.heap.size w w32)); clear hg hw hp_))
   go_roundg k1
   case measure => have := HK1.out; omega
   case rel => exact ⟨(y665), (wrap64 (x4_1 + 1)), hW_, H', ⟨by have := HK1.out; omega⟩, ⟨hR_ HO_3.out⟩, ⟨(hK_ BK656.out)⟩, ⟨hC_⟩⟩
end Go.Proofs.YtgokcaccamfgfaaGreatDoor.G
