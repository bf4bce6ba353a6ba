/- Parts of this proof, one behind the other: G19, G20, G21, G22, G24, G25, G26, G27. -/
import Derived.Test.YtbnljapgnfmmoaaGreatDoorU2
import Derived.Test.YtbnljapgnfmmoaaGreatDoorG0
import Derived.Test.YtbnljapgnfmmoaaGreatDoorU5
section
-- Laid by the session's own driver gp.py over the kit's printer. Not trusted: Lean checks it.
namespace Go.Proofs.YtbnljapgnfmmoaaGreatDoor.G
open Go.RowKit Go.Proofs.YtbnljapgnfmmoaaGreatDoorW.PrintWords Go.Proofs.YtbnljapgnfmmoaaGreatDoorW.PrintLast Go.Proofs.YtbnljapgnfmmoaaGreatDoorW.PrintMore
set_option maxHeartbeats 8000000
set_option maxRecDepth 100000
attribute [local go_sem] max2_int min2_int max_two min_two max_three min_three max_four min_four   -- for this text's walks alone
set_option linter.unusedVariables false
set_option linter.unusedSimpArgs false

def top_Ask.l0 : Nat → List (S66) → List Int → Int → Int → Bool → Option (Int × Int)
 | 0, _, _, _, _, _ => none
 | k + 1, x0, x1, x5, x6, x7 => if x7 = true then ((top_first.f x0 x1 x6 2).bind fun bt141 => (top_Ask.l0 k x0 x1 x6 bt141.1 bt141.2)) else ((top_first.f x0 x1 x5 0).bind fun bt143 => (if bt143.2 = true then (some (0, bt143.1)) else ((top_Bug.f x0 x1 x5).bind fun bt145 => (some (bt145.1, bt145.2)))))
def top_Ask.f (k : Nat) (l0 : List (S66)) (l1 : List Int) : Option (Int × Int) := if 0 < (l1.length : Int) then (if (rd l1 0) = 0 then (some (0, 0)) else (if (rd l1 0) = 1 then (some (2, 0)) else (if (rd l1 0) = 3 then (some (3, 0)) else ((top_first.f l0 l1 0 2).bind fun bt139 => (top_Ask.l0 k l0 l1 0 bt139.1 bt139.2))))) else (none)
theorem top_Ask.mono_l : ∀ k, (∀ y0 y1 y2 y3 y4, LeO (top_Ask.l0 k y0 y1 y2 y3 y4) (top_Ask.l0 (k + 1) y0 y1 y2 y3 y4))
 | 0 => fun _ _ _ _ _ r h => by simp [top_Ask.l0] at h
 | k + 1 => by
  have ih0 := top_Ask.mono_l k
  · intro y0 y1 y2 y3 y4
    unfold top_Ask.l0
    repeat' first
    | (with_reducible exact ih0 _ _ _ _ _)
    | (with_reducible exact LeO.refl _)
    | (with_reducible exact LeO.none _)
    | (with_reducible refine LeO.ite ?_ ?_)
    | (with_reducible refine LeO.bind ?_ (fun _ => ?_))
    | exact ih0 _ _ _ _ _
    | exact LeO.none _
    | refine LeO.ite ?_ ?_
    | refine LeO.bind ?_ (fun _ => ?_)
theorem top_Ask.mono : ∀ a0 a1 k, LeO (top_Ask.f k a0 a1) (top_Ask.f (k + 1) a0 a1) := by
 intro a0 a1 k
 have ih0 := top_Ask.mono_l k
 unfold top_Ask.f
 repeat' first
  | (with_reducible exact ih0 _ _ _ _ _)
  | (with_reducible exact LeO.refl _)
  | (with_reducible exact LeO.none _)
  | (with_reducible refine LeO.ite ?_ ?_)
  | (with_reducible refine LeO.bind ?_ (fun _ => ?_))
  | exact ih0 _ _ _ _ _
  | exact LeO.none _
  | refine LeO.ite ?_ ?_
  | refine LeO.bind ?_ (fun _ => ?_)
theorem top_Ask.calls (k : Nat) (A0 : Option Addr) (c0 : Nat) (l0 : List (S66)) (A1 : Option Addr) (c1 : Nat) (l1 : List Int) (r1 : Int) (r2 : Int) (w : World) (hr0 : Kd.C k66 w A0 l0.length l0) (hc0 : l0.length ≤ c0) (hr1 : Kd.C (Kd.int .i64) w A1 l1.length l1) (hc1 : l1.length ≤ c1) (h : top_Ask.f k l0 l1 = some (r1, r2)) :
 Calls Tryz.prog 51 #[.slice A0 l0.length c0, .slice A1 l1.length c1] w fun e w' => e = .returned (.agg #[.int .i64 r1, .int .i64 r2]) ∧ Below w.heap.size w w' := by
 have hu49 := Tryz.underlying49
 have HR0 := a_ hr0
 have HC0 := a_ hc0
 clear hr0 hc0
 have HR1 := a_ hr1
 have HC1 := a_ hc1
 clear hr1 hc1
 have HB := a_ (Below.refl w.heap.size w)
 have H := h; unfold top_Ask.f at H
 clear h
 replace H := ifI_ H; obtain ⟨c3, H⟩ := H
 have c3b0 : decide (0 < (l1.length : Int)) = true := decide_eq_true c3
 have c3b1 : decide (0 < l1.length) = true := decide_eq_true (by omega)
 clear c3
 by_cases c4 : (rd l1 0) = 0
 case pos =>
  rw [if_pos c4] at H
  have c4b0 : ((rd l1 0) == 0) = true := beq_iff_eq.mpr c4
  have c4b1 : ((rd l1 0) != 0) = false := bne_eq_false_iff_eq.mpr c4
  clear c4
  simp only [Option.some.injEq, Prod.mk.injEq] at H
  obtain ⟨rfl, rfl⟩ := H
  go_enter Tryz.func51, Tryz.ntmps51
  go_wp2_with (first | ((with_reducible refine gate_dst (N := 4) rfl ?_); refine boxE_ 4 #[.int .i64 0, .int .i64 0] 49 ?_; intro gb137 hg w5 hbox hb; have BK137 := a_ (hbox); have GW137 := a_ ((gE_ hg : w.heap.size ≤ gb137)); have GE137 := a_ ((gE_ hg : w.heap.size ≤ gb137)); replace HB := a_ (below_step hB_ hb); clear hb hbox hg; have p138 : 0 ≤ (0 : Int) := (by omega); have q138 : 0 < (l1.length : Int) := of_decide_eq_true hA_; obtain ⟨ad138, e138, hx138_0⟩ := Kd.at_int HR1.out 0 p138 q138; cases e138; have qi138 : (0 < l1.length) = True := eq_true (by omega); (try rw [show ((0 : Int)).toNat = 0 from rfl] at hx138_0); (try rw [Addr.add_zero'] at hx138_0); replace hx138_0 := cl_ HB.out hx138_0; replace p138 := eq_true p138; replace q138 := eq_true q138; obtain ⟨hcz6_0, hcz6_1, hfz6_0, hfz6_1⟩ := bx2_ BK137.out))
  refine bodyPost_ret (results_cell_row rfl _ _ gb137 49 #[.int .i64 0, .int .i64 0] (0, 0) _ rfl (bP_ (bP_ (hK_ BK137.out))) Tryz.underlying49 rfl (by kernel_rfl)) rfl ?_
  exact ⟨hV_, hC_⟩
 rw [if_neg c4] at H
 have c4b0 : ((rd l1 0) == 0) = false := beq_eq_false_iff_ne.mpr c4
 have c4b1 : ((rd l1 0) != 0) = true := bne_iff_ne.mpr c4
 by_cases c7 : (rd l1 0) = 1
 case pos =>
  rw [if_pos c7] at H
  have c7b0 : ((rd l1 0) == 1) = true := beq_iff_eq.mpr c7
  have c7b1 : ((rd l1 0) != 1) = false := bne_eq_false_iff_eq.mpr c7
  clear c7
  simp only [Option.some.injEq, Prod.mk.injEq] at H
  obtain ⟨rfl, rfl⟩ := H
  go_enter Tryz.func51, Tryz.ntmps51
  go_wp2_with (first | ((with_reducible refine gate_dst (N := 4) rfl ?_); refine boxE_ 4 #[.int .i64 0, .int .i64 0] 49 ?_; intro gb137 hg w8 hbox hb; have BK137 := a_ (hbox); have GW137 := a_ ((gE_ hg : w.heap.size ≤ gb137)); have GE137 := a_ ((gE_ hg : w.heap.size ≤ gb137)); replace HB := a_ (below_step hB_ hb); clear hb hbox hg; have p138 : 0 ≤ (0 : Int) := (by omega); have q138 : 0 < (l1.length : Int) := of_decide_eq_true hA_; obtain ⟨ad138, e138, hx138_0⟩ := Kd.at_int HR1.out 0 p138 q138; cases e138; have qi138 : (0 < l1.length) = True := eq_true (by omega); (try rw [show ((0 : Int)).toNat = 0 from rfl] at hx138_0); (try rw [Addr.add_zero'] at hx138_0); replace hx138_0 := cl_ HB.out hx138_0; replace p138 := eq_true p138; replace q138 := eq_true q138; obtain ⟨hcz9_0, hcz9_1, hfz9_0, hfz9_1⟩ := bx2_ BK137.out))
  refine bodyPost_ret (results_cell_row rfl _ _ gb137 49 #[.int .i64 2, .int .i64 0] (0, 0) _ rfl (bP_ (bP_ (hK_ BK137.out))) Tryz.underlying49 rfl (by kernel_rfl)) rfl ?_
  exact ⟨hV_, hC_⟩
 rw [if_neg c7] at H
 have c7b0 : ((rd l1 0) == 1) = false := beq_eq_false_iff_ne.mpr c7
 have c7b1 : ((rd l1 0) != 1) = true := bne_iff_ne.mpr c7
 by_cases c10 : (rd l1 0) = 3
 case pos =>
  rw [if_pos c10] at H
  have c10b0 : ((rd l1 0) == 3) = true := beq_iff_eq.mpr c10
  have c10b1 : ((rd l1 0) != 3) = false := bne_eq_false_iff_eq.mpr c10
  clear c10
  simp only [Option.some.injEq, Prod.mk.injEq] at H
  obtain ⟨rfl, rfl⟩ := H
  go_enter Tryz.func51, Tryz.ntmps51
  go_wp2_with (first | ((with_reducible refine gate_dst (N := 4) rfl ?_); refine boxE_ 4 #[.int .i64 0, .int .i64 0] 49 ?_; intro gb137 hg w11 hbox hb; have BK137 := a_ (hbox); have GW137 := a_ ((gE_ hg : w.heap.size ≤ gb137)); have GE137 := a_ ((gE_ hg : w.heap.size ≤ gb137)); replace HB := a_ (below_step hB_ hb); clear hb hbox hg; have p138 : 0 ≤ (0 : Int) := (by omega); have q138 : 0 < (l1.length : Int) := of_decide_eq_true hA_; obtain ⟨ad138, e138, hx138_0⟩ := Kd.at_int HR1.out 0 p138 q138; cases e138; have qi138 : (0 < l1.length) = True := eq_true (by omega); (try rw [show ((0 : Int)).toNat = 0 from rfl] at hx138_0); (try rw [Addr.add_zero'] at hx138_0); replace hx138_0 := cl_ HB.out hx138_0; replace p138 := eq_true p138; replace q138 := eq_true q138; obtain ⟨hcz12_0, hcz12_1, hfz12_0, hfz12_1⟩ := bx2_ BK137.out))
  refine bodyPost_ret (results_cell_row rfl _ _ gb137 49 #[.int .i64 3, .int .i64 0] (0, 0) _ rfl (bP_ (bP_ (hK_ BK137.out))) Tryz.underlying49 rfl (by kernel_rfl)) rfl ?_
  exact ⟨hV_, hC_⟩
 rw [if_neg c10] at H
 have c10b0 : ((rd l1 0) == 3) = false := beq_eq_false_iff_ne.mpr c10
 have c10b1 : ((rd l1 0) != 3) = true := bne_iff_ne.mpr c10
 replace H := Option.bind_eq_some_iff.mp H
 obtain ⟨⟨t139, t140⟩, A130, H⟩ := H
 try dsimp only at H
 have A13 := a_ A130
 clear A130
 have H' := a_ H
 clear H
 go_enter Tryz.func51, Tryz.ntmps51
 go_wp2_with (first | ((with_reducible refine gate_dst (N := 4) rfl ?_); refine boxE_ 4 #[.int .i64 0, .int .i64 0] 49 ?_; intro gb137 hg w14 hbox hb; have BK137 := a_ (hbox); have GW137 := a_ ((gE_ hg : w.heap.size ≤ gb137)); have GE137 := a_ ((gE_ hg : w.heap.size ≤ gb137)); replace HB := a_ (below_step hB_ hb); clear hb hbox hg; have p138 : 0 ≤ (0 : Int) := (by omega); have q138 : 0 < (l1.length : Int) := of_decide_eq_true hA_; obtain ⟨ad138, e138, hx138_0⟩ := Kd.at_int HR1.out 0 p138 q138; cases e138; have qi138 : (0 < l1.length) = True := eq_true (by omega); (try rw [show ((0 : Int)).toNat = 0 from rfl] at hx138_0); (try rw [Addr.add_zero'] at hx138_0); replace hx138_0 := cl_ HB.out hx138_0; replace p138 := eq_true p138; replace q138 := eq_true q138) | ((with_reducible refine gate_callee (f := 66) rfl ?_); refine goesL_ (some 26) rfl rfl Tryz.func66 (by kernel_rfl) rfl #[.slice A0 l0.length c0, .slice (some ad138) l1.length c1, .int .i64 0, .int .i64 2] rfl hL_ ?_; (with_reducible refine (top_first.calls _ _ l0 _ _ l1 0 2 t139 t140 _ ?side1 ?side2 ?side3 ?side4 A13.out).mono ?_); (case side1 => exact cB_ HR0.out); (case side2 => exact HC0.out); (case side3 => exact cB_ HR1.out); (case side4 => exact HC1.out); rintro e w15 ⟨rfl, hb⟩; refine ⟨_, rfl, ?_⟩; replace BK137 := a_ (bB_ BK137.out hb); replace HB := a_ (below_step hC_ hb); (try clear hb); (try clear hb2); (try clear hk); (try clear hi)))
 (try simp only [Act.put, List.setIfInBounds_toArray, List.set_cons_zero, List.set_cons_succ])
 go_loopg [5, 6, 7] k (fun kq v5 v6 v7 w' => ∃ (x5_1 : Int) (x6_1 : Int) (x7_1 : Bool), v5 = .int .i64 x5_1 ∧ v6 = .int .i64 x6_1 ∧ v7 = .bool x7_1 ∧ Aside0 (top_Ask.l0 kq l0 l1 x5_1 x6_1 x7_1 = some (r1, r2)) ∧ Aside0 (kq ≤ k) ∧ Aside0 (w'.heap[gb137]? = some (.cells #[.int .i64 0, .int .i64 0] 49 (0, 0))) ∧ Aside0 (Below w.heap.size w w'))
 case atStart => exact ⟨(0), (t139), (t140), hW_, hW_, hW_, H', ⟨Nat.le_refl _⟩, ⟨(hK_ BK137.out)⟩, ⟨hC_⟩⟩
 case round =>
  clear H'
  try clear c1
  try clear p1
  try clear q1
  try clear hx1
  try clear qi1
  try clear p2
  try clear c3
  try clear c3b0
  try clear c3b1
  try clear c4
  try clear c4b0
  try clear c4b1
  try clear c5
  try clear c6
  try clear c7
  try clear c7b0
  try clear c7b1
  try clear c10
  try clear c10b0
  try clear c10b1
  try clear p13
  try clear q13
  try clear hx13
  try clear qi13
  try clear hcz12_0
  try clear hcz12_1
  try clear hcz6_0
  try clear hcz6_1
  try clear hcz9_0
  try clear hcz9_1
  try clear hfz12_0
  try clear hfz12_1
  try clear hfz6_0
  try clear hfz6_1
  try clear hfz9_0
  try clear hfz9_1
  try clear hx138_0
  try clear p138
  try clear q138
  obtain ⟨x5_1, x6_1, x7_1, rfl, rfl, rfl, HA, HK1, BK137, HB⟩ := hrel
  cases gk with
  | zero => exact absurd HA.out (by simp [top_Ask.l0])
  | succ k1 =>
   have H := HA.out
   clear HA
   simp only [top_Ask.l0] at H
   by_cases c16 : x7_1 = true
   case pos =>
    subst c16
    rw [if_pos rfl] at H
    replace H := Option.bind_eq_some_iff.mp H
    obtain ⟨⟨t141, t142⟩, A170, H⟩ := H
    try dsimp only at H
    have A17 := a_ A170
    clear A170
    have H' := a_ H
    clear H
    go_wp2_with (first | ((with_reducible refine gate_callee (f := 66) rfl ?_); refine goesL_ (some 34) rfl rfl Tryz.func66 (by kernel_rfl) rfl #[.slice A0 l0.length c0, .slice (some ad138) l1.length c1, .int .i64 x6_1, .int .i64 2] rfl hL_ ?_; (with_reducible refine (top_first.calls _ _ l0 _ _ l1 x6_1 2 t141 t142 _ ?side1 ?side2 ?side3 ?side4 A17.out).mono ?_); (case side1 => exact cB_ HR0.out); (case side2 => exact HC0.out); (case side3 => exact cB_ HR1.out); (case side4 => exact HC1.out); rintro e w18 ⟨rfl, hb⟩; refine ⟨_, rfl, ?_⟩; replace BK137 := a_ (bB_ BK137.out hb); replace HB := a_ (below_step hC_ hb); (try clear hb); (try clear hb2); (try clear hk); (try clear hi)))
    go_roundg k1
    case measure => have := HK1.out; omega
    case rel => exact ⟨(x6_1), (t141), (t142), hW_, hW_, hW_, H', ⟨by have := HK1.out; omega⟩, ⟨(hK_ BK137.out)⟩, ⟨hC_⟩⟩
   replace c16 := Bool.eq_false_iff.mpr c16
   subst c16
   rw [if_neg (show ¬ (false = true) by decide)] at H
   replace H := Option.bind_eq_some_iff.mp H
   obtain ⟨⟨t143, t144⟩, A190, H⟩ := H
   try dsimp only at H
   have A19 := a_ A190
   clear A190
   by_cases c20 : t144 = true
   case pos =>
    subst c20
    rw [if_pos rfl] at H
    simp only [Option.some.injEq, Prod.mk.injEq] at H
    obtain ⟨rfl, rfl⟩ := H
    go_wp2_with (first | ((with_reducible refine gate_callee (f := 66) rfl ?_); refine goesL_ (some 42) rfl rfl Tryz.func66 (by kernel_rfl) rfl #[.slice A0 l0.length c0, .slice (some ad138) l1.length c1, .int .i64 x5_1, .int .i64 0] rfl hL_ ?_; (with_reducible refine (top_first.calls _ _ l0 _ _ l1 x5_1 0 t143 true _ ?side1 ?side2 ?side3 ?side4 A19.out).mono ?_); (case side1 => exact cB_ HR0.out); (case side2 => exact HC0.out); (case side3 => exact cB_ HR1.out); (case side4 => exact HC1.out); rintro e w21 ⟨rfl, hb⟩; refine ⟨_, rfl, ?_⟩; replace BK137 := a_ (bB_ BK137.out hb); replace HB := a_ (below_step hC_ hb); (try clear hb); (try clear hb2); (try clear hk); (try clear hi); obtain ⟨hcz22_0, hcz22_1, hfz22_0, hfz22_1⟩ := bx2_ BK137.out))
    refine bodyPost_ret (results_cell_row rfl _ _ gb137 49 #[.int .i64 0, .int .i64 t143] (0, 0) _ rfl (bP_ (bP_ (hK_ BK137.out))) Tryz.underlying49 rfl (by kernel_rfl)) rfl ?_
    exact ⟨hV_, hC_⟩
   replace c20 := Bool.eq_false_iff.mpr c20
   subst c20
   rw [if_neg (show ¬ (false = true) by decide)] at H
   replace H := Option.bind_eq_some_iff.mp H
   obtain ⟨⟨t145, t146⟩, A230, H⟩ := H
   try dsimp only at H
   have A23 := a_ A230
   clear A230
   simp only [Option.some.injEq, Prod.mk.injEq] at H
   obtain ⟨rfl, rfl⟩ := H
   go_wp2_with (first | ((with_reducible refine gate_callee (f := 66) rfl ?_); refine goesL_ (some 42) rfl rfl Tryz.func66 (by kernel_rfl) rfl #[.slice A0 l0.length c0, .slice (some ad138) l1.length c1, .int .i64 x5_1, .int .i64 0] rfl hL_ ?_; (with_reducible refine (top_first.calls _ _ l0 _ _ l1 x5_1 0 t143 false _ ?side1 ?side2 ?side3 ?side4 A19.out).mono ?_); (case side1 => exact cB_ HR0.out); (case side2 => exact HC0.out); (case side3 => exact cB_ HR1.out); (case side4 => exact HC1.out); rintro e w24 ⟨rfl, hb⟩; refine ⟨_, rfl, ?_⟩; replace BK137 := a_ (bB_ BK137.out hb); replace HB := a_ (below_step hC_ hb); (try clear hb); (try clear hb2); (try clear hk); (try clear hi)) | ((with_reducible refine gate_callee (f := 65) rfl ?_); refine goesL_ (some 51) rfl rfl Tryz.func65 (by kernel_rfl) rfl #[.slice A0 l0.length c0, .slice (some ad138) l1.length c1, .int .i64 x5_1] rfl hL_ ?_; (with_reducible refine (top_Bug.calls _ _ l0 _ _ l1 x5_1 t145 t146 _ ?side1 ?side2 ?side3 ?side4 A23.out).mono ?_); (case side1 => exact cB_ HR0.out); (case side2 => exact HC0.out); (case side3 => exact cB_ HR1.out); (case side4 => exact HC1.out); rintro e w25 ⟨rfl, hb⟩; refine ⟨_, rfl, ?_⟩; replace BK137 := a_ (bB_ BK137.out hb); replace HB := a_ (below_step hC_ hb); (try clear hb); (try clear hb2); (try clear hk); (try clear hi); obtain ⟨hcz26_0, hcz26_1, hfz26_0, hfz26_1⟩ := bx2_ BK137.out))
   refine bodyPost_ret (results_cell_row rfl _ _ gb137 49 #[.int .i64 t145, .int .i64 t146] (0, 0) _ rfl (bP_ (bP_ (hK_ BK137.out))) Tryz.underlying49 rfl (by kernel_rfl)) rfl ?_
   exact ⟨hV_, hC_⟩
end Go.Proofs.YtbnljapgnfmmoaaGreatDoor.G
end
section
-- Laid by the session's own driver gp.py over the kit's printer. Not trusted: Lean checks it.
namespace Go.Proofs.YtbnljapgnfmmoaaGreatDoor.G
open Go.RowKit Go.Proofs.YtbnljapgnfmmoaaGreatDoorW.PrintWords Go.Proofs.YtbnljapgnfmmoaaGreatDoorW.PrintLast Go.Proofs.YtbnljapgnfmmoaaGreatDoorW.PrintMore
set_option maxHeartbeats 8000000
set_option maxRecDepth 100000
attribute [local go_sem] max2_int min2_int max_two min_two max_three min_three max_four min_four   -- for this text's walks alone
set_option linter.unusedVariables false
set_option linter.unusedSimpArgs false

def half_last.l0 : Nat → Int → List Int → Int → Int → Option (Int)
 | 0, _, _, _, _ => none
 | k + 1, x3, x6, x7, x8 => if x8 < x7 then (if 0 ≤ x8 then (if x8 < (x6.length : Int) then (if (rd x6 x8) = 2 then (half_last.l0 k x8 x6 x7 (wrap64 (x8 + 1))) else (half_last.l0 k x3 x6 x7 (wrap64 (x8 + 1)))) else (none)) else (none)) else (some x3)
def half_last.f (k : Nat) (l0 : List Int) : Option (Int) := half_last.l0 k 0 l0 (l0.length : Int) 0
theorem half_last.mono_l : ∀ k, (∀ y0 y1 y2 y3, LeO (half_last.l0 k y0 y1 y2 y3) (half_last.l0 (k + 1) y0 y1 y2 y3))
 | 0 => fun _ _ _ _ r h => by simp [half_last.l0] at h
 | k + 1 => by
  have ih0 := half_last.mono_l k
  · intro y0 y1 y2 y3
    unfold half_last.l0
    repeat' first
    | (with_reducible exact ih0 _ _ _ _)
    | (with_reducible exact LeO.refl _)
    | (with_reducible exact LeO.none _)
    | (with_reducible refine LeO.ite ?_ ?_)
    | (with_reducible refine LeO.bind ?_ (fun _ => ?_))
    | exact ih0 _ _ _ _
    | exact LeO.none _
    | refine LeO.ite ?_ ?_
    | refine LeO.bind ?_ (fun _ => ?_)
theorem half_last.mono : ∀ a0 k, LeO (half_last.f k a0) (half_last.f (k + 1) a0) := by
 intro a0 k
 have ih0 := half_last.mono_l k
 unfold half_last.f
 repeat' first
  | (with_reducible exact ih0 _ _ _ _)
  | (with_reducible exact LeO.refl _)
  | (with_reducible exact LeO.none _)
  | (with_reducible refine LeO.ite ?_ ?_)
  | (with_reducible refine LeO.bind ?_ (fun _ => ?_))
  | exact ih0 _ _ _ _
  | exact LeO.none _
  | refine LeO.ite ?_ ?_
  | refine LeO.bind ?_ (fun _ => ?_)
theorem half_last.calls (k : Nat) (A0 : Option Addr) (c0 : Nat) (l0 : List Int) (r : Int) (w : World) (hr0 : Kd.C (Kd.int .i64) w A0 l0.length l0) (hc0 : l0.length ≤ c0) (h : half_last.f k l0 = some r) :
 Calls Tryz.prog 59 #[.slice A0 l0.length c0] w fun e w' => e = .returned (.int .i64 r) ∧ Drawn0 w w' := by
 have HR0 := a_ hr0
 have HC0 := a_ hc0
 clear hr0 hc0
 have H : (half_last.l0 k 0 l0 (l0.length : Int) 0) = some r := h
 clear h
 have H' := a_ H
 clear H
 go_enter Tryz.func59, Tryz.ntmps59
 go_wp2
 go_loopg [3, 8] k (fun kq v3 v8 w' => ∃ (x3_1 : Int) (x8_1 : Int), v3 = .int .i64 x3_1 ∧ v8 = .int .i64 x8_1 ∧ Aside0 (half_last.l0 kq x3_1 l0 (l0.length : Int) x8_1 = some r) ∧ Aside0 (kq ≤ k) ∧ Drawn0 w w')
 case atStart => exact ⟨(0), (0), hW_, hW_, H', ⟨Nat.le_refl _⟩, by repeat (first | exact Drawn0.refl _ | apply Drawn0.step)⟩
 case round =>
  clear H'
  obtain ⟨x3_1, x8_1, rfl, rfl, HA, HK1, ⟨m1, rfl⟩⟩ := hrel
  cases gk with
  | zero => exact absurd HA.out (by simp [half_last.l0])
  | succ k1 =>
   have H := HA.out
   clear HA
   simp only [half_last.l0] at H
   by_cases c2 : x8_1 < (l0.length : Int)
   case neg =>
    rw [if_neg c2] at H
    have c2b0 : decide (x8_1 < (l0.length : Int)) = false := decide_eq_false c2
    clear c2
    obtain rfl := Option.some.inj H
    go_wp2
    go_ret
    exact ⟨by first | rfl | (simp; done) | (simp [*]; done), by repeat (first | exact Drawn0.refl _ | apply Drawn0.step)⟩

   rw [if_pos c2] at H
   have c2b0 : decide (x8_1 < (l0.length : Int)) = true := decide_eq_true c2
   clear c2
   replace H := ifI_ H; obtain ⟨c3, H⟩ := H
   have c3b0 : decide (0 ≤ x8_1) = true := decide_eq_true c3
   clear c3
   replace H := ifI_ H; obtain ⟨c4, H⟩ := H
   have c4b0 : decide (x8_1 < (l0.length : Int)) = true := decide_eq_true c4
   clear c4
   by_cases c5 : (rd l0 x8_1) = 2
   case neg =>
    rw [if_neg c5] at H
    have c5b0 : ((rd l0 x8_1) == 2) = false := beq_eq_false_iff_ne.mpr c5
    have c5b1 : ((rd l0 x8_1) != 2) = true := bne_iff_ne.mpr c5
    have H' := a_ H
    clear H
    have p147 : 0 ≤ (x8_1 : Int) := of_decide_eq_true hA_
    have q147 : x8_1 < (l0.length : Int) := of_decide_eq_true hA_
    obtain ⟨ad147, e147, hx147_0⟩ := Kd.at_int HR0.out x8_1 p147 q147
    cases e147
    replace p147 := eq_true p147
    replace q147 := eq_true q147
    go_wp2
    go_roundg k1
    case measure => have := HK1.out; omega
    case rel => exact ⟨(x3_1), (wrap64 (x8_1 + 1)), hW_, hW_, H', ⟨by have := HK1.out; omega⟩, by repeat (first | exact Drawn0.refl _ | apply Drawn0.step)⟩
   rw [if_pos c5] at H
   have c5b0 : ((rd l0 x8_1) == 2) = true := beq_iff_eq.mpr c5
   have c5b1 : ((rd l0 x8_1) != 2) = false := bne_eq_false_iff_eq.mpr c5
   clear c5
   have H' := a_ H
   clear H
   have p147 : 0 ≤ (x8_1 : Int) := of_decide_eq_true hA_
   have q147 : x8_1 < (l0.length : Int) := of_decide_eq_true hA_
   obtain ⟨ad147, e147, hx147_0⟩ := Kd.at_int HR0.out x8_1 p147 q147
   cases e147
   replace p147 := eq_true p147
   replace q147 := eq_true q147
   go_wp2
   go_roundg k1
   case measure => have := HK1.out; omega
   case rel => exact ⟨(x8_1), (wrap64 (x8_1 + 1)), hW_, hW_, H', ⟨by have := HK1.out; omega⟩, by repeat (first | exact Drawn0.refl _ | apply Drawn0.step)⟩
end Go.Proofs.YtbnljapgnfmmoaaGreatDoor.G
end
section
-- Laid by the session's own driver gp.py over the kit's printer. Not trusted: Lean checks it.
namespace Go.Proofs.YtbnljapgnfmmoaaGreatDoor.G
open Go.RowKit Go.Proofs.YtbnljapgnfmmoaaGreatDoorW.PrintWords Go.Proofs.YtbnljapgnfmmoaaGreatDoorW.PrintLast Go.Proofs.YtbnljapgnfmmoaaGreatDoorW.PrintMore
set_option maxHeartbeats 8000000
set_option maxRecDepth 100000
attribute [local go_sem] max2_int min2_int max_two min_two max_three min_three max_four min_four   -- for this text's walks alone
set_option linter.unusedVariables false
set_option linter.unusedSimpArgs false

def half_doubts.l0 : Nat → List (S66) → List Int → Int → List Bool → Int → Option (List Bool)
 | 0, _, _, _, _, _ => none
 | k + 1, x0, x1, x2, x7, x8 => if x8 < (x0.length : Int) then (if 0 ≤ x8 then (if ((rd_T66 x0 x8).f1) = x2 then (if x8 < (x1.length : Int) then (if x8 < (x7.length : Int) then (half_doubts.l0 k x0 x1 x2 (x7.set (x8 : Int).toNat ((rd x1 x8) != 1)) (wrap64 (x8 + 1))) else (none)) else (none)) else (if 0 ≤ ((rd_T66 x0 x8).f1) then (if ((rd_T66 x0 x8).f1) < (x7.length : Int) then (if rdOf false x7 ((rd_T66 x0 x8).f1) = true then (if x8 < (x1.length : Int) then (if x8 < (x7.length : Int) then (half_doubts.l0 k x0 x1 x2 (x7.set (x8 : Int).toNat ((rd x1 x8) != 1)) (wrap64 (x8 + 1))) else (none)) else (none)) else (if x8 < (x7.length : Int) then (half_doubts.l0 k x0 x1 x2 (x7.set (x8 : Int).toNat false) (wrap64 (x8 + 1))) else (none))) else (none)) else (none))) else (none)) else (some x7)
def half_doubts.f (k : Nat) (l0 : List (S66)) (l1 : List Int) (a2 : Int) : Option (List Bool) := if 0 ≤ (l0.length : Int) then (if ((l0.length : Int) : Int).toNat ≤ 281474976710656 then (half_doubts.l0 k l0 l1 a2 (List.replicate ((l0.length : Int) : Int).toNat false) (wrap64 (a2 + 1))) else (none)) else (none)
theorem half_doubts.mono_l : ∀ k, (∀ y0 y1 y2 y3 y4, LeO (half_doubts.l0 k y0 y1 y2 y3 y4) (half_doubts.l0 (k + 1) y0 y1 y2 y3 y4))
 | 0 => fun _ _ _ _ _ r h => by simp [half_doubts.l0] at h
 | k + 1 => by
  have ih0 := half_doubts.mono_l k
  · intro y0 y1 y2 y3 y4
    unfold half_doubts.l0
    repeat' first
    | (with_reducible exact ih0 _ _ _ _ _)
    | (with_reducible exact LeO.refl _)
    | (with_reducible exact LeO.none _)
    | (with_reducible refine LeO.ite ?_ ?_)
    | (with_reducible refine LeO.bind ?_ (fun _ => ?_))
    | exact ih0 _ _ _ _ _
    | exact LeO.none _
    | refine LeO.ite ?_ ?_
    | refine LeO.bind ?_ (fun _ => ?_)
theorem half_doubts.mono : ∀ a0 a1 a2 k, LeO (half_doubts.f k a0 a1 a2) (half_doubts.f (k + 1) a0 a1 a2) := by
 intro a0 a1 a2 k
 have ih0 := half_doubts.mono_l k
 unfold half_doubts.f
 repeat' first
  | (with_reducible exact ih0 _ _ _ _ _)
  | (with_reducible exact LeO.refl _)
  | (with_reducible exact LeO.none _)
  | (with_reducible refine LeO.ite ?_ ?_)
  | (with_reducible refine LeO.bind ?_ (fun _ => ?_))
  | exact ih0 _ _ _ _ _
  | exact LeO.none _
  | refine LeO.ite ?_ ?_
  | refine LeO.bind ?_ (fun _ => ?_)
theorem half_doubts.calls (k : Nat) (A0 : Option Addr) (c0 : Nat) (l0 : List (S66)) (A1 : Option Addr) (c1 : Nat) (l1 : List Int) (a2 : Int) (r : List Bool) (w : World) (hr0 : Kd.C k66 w A0 l0.length l0) (hc0 : l0.length ≤ c0) (hr1 : Kd.C (Kd.int .i64) w A1 l1.length l1) (hc1 : l1.length ≤ c1) (h : half_doubts.f k l0 l1 a2 = some r) :
 Calls Tryz.prog 60 #[.slice A0 l0.length c0, .slice A1 l1.length c1, .int .i64 a2] w fun e w' => ∃ v0_ : Value, e = .returned (v0_) ∧ Kd.R Kd.bool 4 w' w.heap.size (fun _ => True) v0_ r ∧ Below w.heap.size w w' := by
 have HR0 := a_ hr0
 have HC0 := a_ hc0
 clear hr0 hc0
 have HR1 := a_ hr1
 have HC1 := a_ hc1
 clear hr1 hc1
 have HB := a_ (Below.refl w.heap.size w)
 have H := h; unfold half_doubts.f at H
 clear h
 replace H := ifI_ H; obtain ⟨c4, H⟩ := H
 have c4b0 := eq_true c4
 have c4b1 : decide (0 ≤ (l0.length : Int)) = true := decide_eq_true c4
 clear c4
 replace H := ifI_ H; obtain ⟨c5, H⟩ := H
 have c5b0 := eq_true c5
 have c5b1 : decide (((l0.length : Int) : Int).toNat ≤ 281474976710656) = true := decide_eq_true c5
 clear c5
 obtain ⟨y148, hy148⟩ : ∃ y_ : List Bool, y_ = (List.replicate ((l0.length : Int) : Int).toNat false) := ⟨_, rfl⟩
 replace H : (half_doubts.l0 k l0 l1 a2 y148 (wrap64 (a2 + 1))) = some r := by first | (rw [hy148]; with_reducible exact H) | (have H2_ := (Option.bind_some _ _).symm.trans H; rw [hy148]; with_reducible exact H2_) | (have H2_ := (Option.bind_some _ _).symm.trans H; with_reducible exact H2_) | with_reducible exact H | (rw [hy148]; exact H) | exact H
 have Ny148 := a_ hy148
 clear hy148
 have H' := a_ H
 clear H
 go_enter Tryz.func60, Tryz.ntmps60
 go_wp2_with (first | ((with_reducible refine gate_dst (N := 12) rfl ?_); refine Kd.R_make Kd.bool _ 4 rfl (N := 12) rfl 85 _ _ rfl (l0.length : Int) rfl rfl Tryz.underlying85 (.bool false) 1 info4 rfl (by decide) (by omega) false (ok := fun _ => True) (okp := fun _ => True) rfl (fun _ hk => hk) trivial (of_decide_eq_true hA_) (Nat.le_trans (Nat.mul_le_mul_right _ (of_decide_eq_true hA_ : (l0.length : Int).toNat ≤ 281474976710656)) (by omega)) (Below.refl _ _) (Nat.le_refl _) ?_; intro v149 w6 ho7 hb hg_ hnew_; clear hg_ hnew_; (first | rw [← Ny148.out] at ho7 | (simp only [Int.reduceToNat] at ho7; rw [← Ny148.out] at ho7)); have HO150 := a_ (Kd.R_lower ho7 hS_); replace HB := a_ (below_step hB_ hb); clear hb ho7))
 go_loopg [8] k (fun kq v8 w' => ∃ (x7_1 : List Bool) (x8_1 : Int), v8 = .int .i64 x8_1 ∧ Aside0 (half_doubts.l0 kq l0 l1 a2 x7_1 x8_1 = some r) ∧ Aside0 (kq ≤ k) ∧ Aside0 (Kd.R Kd.bool 4 w' w.heap.size (fun _ => True) v149 x7_1) ∧ Aside0 (Below w.heap.size w w'))
 case atStart => exact ⟨(y148), (wrap64 (a2 + 1)), hW_, H', ⟨Nat.le_refl _⟩, ⟨hR_ HO150.out⟩, ⟨hC_⟩⟩
 case round =>
  clear H'
  try clear c1
  try clear p2
  try clear c4
  try clear c4b0
  try clear c4b1
  try clear c5
  try clear c5b0
  try clear c5b1
  try clear c6
  try clear p6
  obtain ⟨x7_1, x8_1, rfl, HA, HK1, HO_7, HB⟩ := hrel
  cases gk with
  | zero => exact absurd HA.out (by simp [half_doubts.l0])
  | succ k1 =>
   have H := HA.out
   clear HA
   simp only [half_doubts.l0] at H
   by_cases c8 : x8_1 < (l0.length : Int)
   case neg =>
    rw [if_neg c8] at H
    have c8b0 : decide (x8_1 < (l0.length : Int)) = false := decide_eq_false c8
    clear c8
    obtain rfl := Option.some.inj H
    go_wp2
    go_ret
    exact ⟨_, hV_, hR_ HO_7.out, hC_⟩
   rw [if_pos c8] at H
   have c8b0 : decide (x8_1 < (l0.length : Int)) = true := decide_eq_true c8
   clear c8
   replace H := ifI_ H; obtain ⟨c9, H⟩ := H
   have c9b0 : decide (0 ≤ x8_1) = true := decide_eq_true c9
   clear c9
   by_cases c10 : ((rd_T66 l0 x8_1).f1) = a2
   case pos =>
    rw [if_pos c10] at H
    have c10b0 : (((rd_T66 l0 x8_1).f1) == a2) = true := beq_iff_eq.mpr c10
    have c10b1 : (((rd_T66 l0 x8_1).f1) != a2) = false := bne_eq_false_iff_eq.mpr c10
    clear c10
    replace H := ifI_ H; obtain ⟨c11, H⟩ := H
    have c11b0 : decide (x8_1 < (l1.length : Int)) = true := decide_eq_true c11
    clear c11
    replace H := ifI_ H; obtain ⟨c12, H⟩ := H
    have c12b0 : decide (x8_1 < (x7_1.length : Int)) = true := decide_eq_true c12
    clear c12
    obtain ⟨y153, hy153⟩ : ∃ y_ : List Bool, y_ = (x7_1.set (x8_1 : Int).toNat ((rd l1 x8_1) != 1)) := ⟨_, rfl⟩
    replace H : (half_doubts.l0 k1 l0 l1 a2 y153 (wrap64 (x8_1 + 1))) = some r := by first | (rw [hy153]; with_reducible exact H) | (have H2_ := (Option.bind_some _ _).symm.trans H; rw [hy153]; with_reducible exact H2_) | (have H2_ := (Option.bind_some _ _).symm.trans H; with_reducible exact H2_) | with_reducible exact H | (rw [hy153]; exact H) | exact H
    have Ny153 := a_ hy153
    clear hy153
    have H' := a_ H
    clear H
    have p151 : 0 ≤ (x8_1 : Int) := of_decide_eq_true hA_
    have q151 : x8_1 < (l0.length : Int) := of_decide_eq_true hA_
    obtain ⟨ad151, A151_2, c151_2, e151, hx151_0, hx151_1, hx151_2, hx151_3, hl151_2, hi151_2⟩ := at_T66 HR0.out x8_1 p151 q151
    cases e151
    replace hx151_0 := cl_ HB.out hx151_0
    replace hx151_1 := cl_ HB.out hx151_1
    replace hx151_2 := cl_ HB.out hx151_2
    replace hx151_3 := cl_ HB.out hx151_3
    have HR151_2 := a_ hi151_2
    have HC151_2 := a_ hl151_2
    clear hi151_2 hl151_2
    replace p151 := eq_true p151
    replace q151 := eq_true q151
    have p152 : 0 ≤ (x8_1 : Int) := of_decide_eq_true hA_
    have q152 : x8_1 < (l1.length : Int) := of_decide_eq_true hA_
    obtain ⟨ad152, e152, hx152_0⟩ := Kd.at_int HR1.out x8_1 p152 q152
    cases e152
    replace hx152_0 := cl_ HB.out hx152_0
    replace p152 := eq_true p152
    replace q152 := eq_true q152
    have p13 : 0 ≤ (x8_1 : Int) := of_decide_eq_true hA_
    have q13 : (x8_1 : Int) < ((x7_1.length : Int) : Int) := of_decide_eq_true hA_
    obtain ⟨go13, co13, eo13, gb13, gl13, cl13, HG13⟩ := Kd.R_form HO_7.out (by omega)
    (first | cases eo13 | (injection eo13 with ea_ en_ ec_; (first | subst ea_ | (injection ea_ with ea_; subst ea_)); subst ec_; clear en_))
    have GB13 := a_ gb13
    have GG13 := a_ HG13
    clear gb13 gl13 HG13
    obtain ⟨hx13_0, hf13_0⟩ := Kd.R_celln false HO_7.out (x8_1 : Int) p13 q13
    replace p13 := eq_true p13
    replace q13 := eq_true q13
    have HP14 := Kd.R_putg HO_7.out (x8_1 : Int) ((rd l1 x8_1) != 1)
    go_wp2_with (first | ((with_reducible refine gate_store (t := 4) (p := 44) rfl ?_); refine store_event (t := 4) (p := 44) (v := ?vo_w15) (w1 := (wr.setCell ⟨go13, (x8_1 : Int).toNat, none⟩ (.bool ((rd l1 x8_1) != 1)))) ?hg ?ho ?hn ?hr ?_; (case ho => rfl); (case hg => rfl); (case hn => rfl); (case hr => first | (go_simp; done) | (go_simp; rfl)); intro w15 hw; have hg : wr.grownBy w15 (some go13) := (by rw [hw]; exact HP14.2); have hp_ : Kd.R Kd.bool 4 w15 w.heap.size (fun _ => True) (.slice (some ⟨go13, 0, none⟩) x7_1.length co13) y153 := (by rw [hw, Ny153.out]; exact HP14.1); clear HP14; replace HO_7 := a_ (hp_); replace HB := a_ ((by rw [hw]; exact below_set (HB.out) GB13.out : Below w.heap.size w w15)); clear hg hw hp_))
    go_roundg k1
    case measure => have := HK1.out; omega
    case rel => exact ⟨(y153), (wrap64 (x8_1 + 1)), hW_, H', ⟨by have := HK1.out; omega⟩, ⟨hR_ HO_7.out⟩, ⟨hC_⟩⟩
   rw [if_neg c10] at H
   have c10b0 : (((rd_T66 l0 x8_1).f1) == a2) = false := beq_eq_false_iff_ne.mpr c10
   have c10b1 : (((rd_T66 l0 x8_1).f1) != a2) = true := bne_iff_ne.mpr c10
   replace H := ifI_ H; obtain ⟨c16, H⟩ := H
   have c16b0 : decide (0 ≤ ((rd_T66 l0 x8_1).f1)) = true := decide_eq_true c16
   clear c16
   replace H := ifI_ H; obtain ⟨c17, H⟩ := H
   have c17b0 : decide (((rd_T66 l0 x8_1).f1) < (x7_1.length : Int)) = true := decide_eq_true c17
   clear c17
   obtain ⟨bq18, hbq18⟩ : ∃ b_ : Bool, b_ = (rdOf false x7_1 ((rd_T66 l0 x8_1).f1)) := ⟨_, rfl⟩
   replace H : (if bq18 = true then (if x8_1 < (l1.length : Int) then (if x8_1 < (x7_1.length : Int) then (half_doubts.l0 k1 l0 l1 a2 (x7_1.set (x8_1 : Int).toNat ((rd l1 x8_1) != 1)) (wrap64 (x8_1 + 1))) else (none)) else (none)) else (if x8_1 < (x7_1.length : Int) then (half_doubts.l0 k1 l0 l1 a2 (x7_1.set (x8_1 : Int).toNat false) (wrap64 (x8_1 + 1))) else (none))) = some r := by rw [← hbq18] at H; exact H
   have Nbq18 := a_ hbq18
   clear hbq18
   by_cases c19 : bq18 = true
   case neg =>
    replace c19 := Bool.eq_false_iff.mpr c19
    subst c19
    rw [if_neg (show ¬ (false = true) by decide)] at H
    replace H := ifI_ H; obtain ⟨c26, H⟩ := H
    have c26b0 : decide (x8_1 < (x7_1.length : Int)) = true := decide_eq_true c26
    clear c26
    obtain ⟨y157, hy157⟩ : ∃ y_ : List Bool, y_ = (x7_1.set (x8_1 : Int).toNat false) := ⟨_, rfl⟩
    replace H : (half_doubts.l0 k1 l0 l1 a2 y157 (wrap64 (x8_1 + 1))) = some r := by first | (rw [hy157]; with_reducible exact H) | (have H2_ := (Option.bind_some _ _).symm.trans H; rw [hy157]; with_reducible exact H2_) | (have H2_ := (Option.bind_some _ _).symm.trans H; with_reducible exact H2_) | with_reducible exact H | (rw [hy157]; exact H) | exact H
    have Ny157 := a_ hy157
    clear hy157
    have H' := a_ H
    clear H
    have p151 : 0 ≤ (x8_1 : Int) := of_decide_eq_true hA_
    have q151 : x8_1 < (l0.length : Int) := of_decide_eq_true hA_
    obtain ⟨ad151, A151_2, c151_2, e151, hx151_0, hx151_1, hx151_2, hx151_3, hl151_2, hi151_2⟩ := at_T66 HR0.out x8_1 p151 q151
    cases e151
    replace hx151_0 := cl_ HB.out hx151_0
    replace hx151_1 := cl_ HB.out hx151_1
    replace hx151_2 := cl_ HB.out hx151_2
    replace hx151_3 := cl_ HB.out hx151_3
    have HR151_2 := a_ hi151_2
    have HC151_2 := a_ hl151_2
    clear hi151_2 hl151_2
    replace p151 := eq_true p151
    replace q151 := eq_true q151
    obtain ⟨Ao28, co28, eo28⟩ := Kd.R_slice HO_7.out
    subst eo28
    have p154 : 0 ≤ (((rd_T66 l0 x8_1).f1) : Int) := of_decide_eq_true hA_
    have q154 : ((rd_T66 l0 x8_1).f1) < (x7_1.length : Int) := of_decide_eq_true hA_
    obtain ⟨ad154, e154, hx154_0⟩ := Kd.at_bool (Kd.R_reads' HO_7.out).2.2 ((rd_T66 l0 x8_1).f1) p154 q154
    (try rw [← Nbq18.out] at hx154_0)
    cases e154
    replace p154 := eq_true p154
    replace q154 := eq_true q154
    have p27 : 0 ≤ (x8_1 : Int) := of_decide_eq_true hA_
    have q27 : (x8_1 : Int) < ((x7_1.length : Int) : Int) := of_decide_eq_true hA_
    obtain ⟨go27, co27, eo27, gb27, gl27, cl27, HG27⟩ := Kd.R_form HO_7.out (by omega)
    (first | cases eo27 | (injection eo27 with ea_ en_ ec_; (first | subst ea_ | (injection ea_ with ea_; subst ea_)); subst ec_; clear en_))
    have GB27 := a_ gb27
    have GG27 := a_ HG27
    clear gb27 gl27 HG27
    (first | simp only [add_plain] at hx154_0 | skip)
    obtain ⟨hx27_0, hf27_0⟩ := Kd.R_celln false HO_7.out (x8_1 : Int) p27 q27
    replace p27 := eq_true p27
    replace q27 := eq_true q27
    have HP29 := Kd.R_putg HO_7.out (x8_1 : Int) false
    go_wp2_with (first | ((with_reducible refine gate_store (t := 4) (p := 44) rfl ?_); refine store_event (t := 4) (p := 44) (v := ?vo_w30) (w1 := (wr.setCell ⟨go27, (x8_1 : Int).toNat, none⟩ (.bool false))) ?hg ?ho ?hn ?hr ?_; (case ho => rfl); (case hg => rfl); (case hn => rfl); (case hr => first | (go_simp; done) | (go_simp; rfl)); intro w30 hw; have hg : wr.grownBy w30 (some go27) := (by rw [hw]; exact HP29.2); have hp_ : Kd.R Kd.bool 4 w30 w.heap.size (fun _ => True) (.slice (some ⟨go27, 0, none⟩) x7_1.length co28) y157 := (by rw [hw, Ny157.out]; exact HP29.1); clear HP29; replace HO_7 := a_ (hp_); replace HB := a_ ((by rw [hw]; exact below_set (HB.out) GB27.out : Below w.heap.size w w30)); clear hg hw hp_))
    go_roundg k1
    case measure => have := HK1.out; omega
    case rel => exact ⟨(y157), (wrap64 (x8_1 + 1)), hW_, H', ⟨by have := HK1.out; omega⟩, ⟨hR_ HO_7.out⟩, ⟨hC_⟩⟩
   subst c19
   rw [if_pos rfl] at H
   replace H := ifI_ H; obtain ⟨c20, H⟩ := H
   have c20b0 : decide (x8_1 < (l1.length : Int)) = true := decide_eq_true c20
   clear c20
   replace H := ifI_ H; obtain ⟨c21, H⟩ := H
   have c21b0 : decide (x8_1 < (x7_1.length : Int)) = true := decide_eq_true c21
   clear c21
   obtain ⟨y156, hy156⟩ : ∃ y_ : List Bool, y_ = (x7_1.set (x8_1 : Int).toNat ((rd l1 x8_1) != 1)) := ⟨_, rfl⟩
   replace H : (half_doubts.l0 k1 l0 l1 a2 y156 (wrap64 (x8_1 + 1))) = some r := by first | (rw [hy156]; with_reducible exact H) | (have H2_ := (Option.bind_some _ _).symm.trans H; rw [hy156]; with_reducible exact H2_) | (have H2_ := (Option.bind_some _ _).symm.trans H; with_reducible exact H2_) | with_reducible exact H | (rw [hy156]; exact H) | exact H
   have Ny156 := a_ hy156
   clear hy156
   have H' := a_ H
   clear H
   have p151 : 0 ≤ (x8_1 : Int) := of_decide_eq_true hA_
   have q151 : x8_1 < (l0.length : Int) := of_decide_eq_true hA_
   obtain ⟨ad151, A151_2, c151_2, e151, hx151_0, hx151_1, hx151_2, hx151_3, hl151_2, hi151_2⟩ := at_T66 HR0.out x8_1 p151 q151
   cases e151
   replace hx151_0 := cl_ HB.out hx151_0
   replace hx151_1 := cl_ HB.out hx151_1
   replace hx151_2 := cl_ HB.out hx151_2
   replace hx151_3 := cl_ HB.out hx151_3
   have HR151_2 := a_ hi151_2
   have HC151_2 := a_ hl151_2
   clear hi151_2 hl151_2
   replace p151 := eq_true p151
   replace q151 := eq_true q151
   obtain ⟨Ao23, co23, eo23⟩ := Kd.R_slice HO_7.out
   subst eo23
   have p154 : 0 ≤ (((rd_T66 l0 x8_1).f1) : Int) := of_decide_eq_true hA_
   have q154 : ((rd_T66 l0 x8_1).f1) < (x7_1.length : Int) := of_decide_eq_true hA_
   obtain ⟨ad154, e154, hx154_0⟩ := Kd.at_bool (Kd.R_reads' HO_7.out).2.2 ((rd_T66 l0 x8_1).f1) p154 q154
   (try rw [← Nbq18.out] at hx154_0)
   cases e154
   replace p154 := eq_true p154
   replace q154 := eq_true q154
   have p155 : 0 ≤ (x8_1 : Int) := of_decide_eq_true hA_
   have q155 : x8_1 < (l1.length : Int) := of_decide_eq_true hA_
   obtain ⟨ad155, e155, hx155_0⟩ := Kd.at_int HR1.out x8_1 p155 q155
   cases e155
   replace hx155_0 := cl_ HB.out hx155_0
   replace p155 := eq_true p155
   replace q155 := eq_true q155
   have p22 : 0 ≤ (x8_1 : Int) := of_decide_eq_true hA_
   have q22 : (x8_1 : Int) < ((x7_1.length : Int) : Int) := of_decide_eq_true hA_
   obtain ⟨go22, co22, eo22, gb22, gl22, cl22, HG22⟩ := Kd.R_form HO_7.out (by omega)
   (first | cases eo22 | (injection eo22 with ea_ en_ ec_; (first | subst ea_ | (injection ea_ with ea_; subst ea_)); subst ec_; clear en_))
   have GB22 := a_ gb22
   have GG22 := a_ HG22
   clear gb22 gl22 HG22
   (first | simp only [add_plain] at hx154_0 | skip)
   obtain ⟨hx22_0, hf22_0⟩ := Kd.R_celln false HO_7.out (x8_1 : Int) p22 q22
   replace p22 := eq_true p22
   replace q22 := eq_true q22
   have HP24 := Kd.R_putg HO_7.out (x8_1 : Int) ((rd l1 x8_1) != 1)
   go_wp2_with (first | ((with_reducible refine gate_store (t := 4) (p := 44) rfl ?_); refine store_event (t := 4) (p := 44) (v := ?vo_w25) (w1 := (wr.setCell ⟨go22, (x8_1 : Int).toNat, none⟩ (.bool ((rd l1 x8_1) != 1)))) ?hg ?ho ?hn ?hr ?_; (case ho => rfl); (case hg => rfl); (case hn => rfl); (case hr => first | (go_simp; done) | (go_simp; rfl)); intro w25 hw; have hg : wr.grownBy w25 (some go22) := (by rw [hw]; exact HP24.2); have hp_ : Kd.R Kd.bool 4 w25 w.heap.size (fun _ => True) (.slice (some ⟨go22, 0, none⟩) x7_1.length co23) y156 := (by rw [hw, Ny156.out]; exact HP24.1); clear HP24; replace HO_7 := a_ (hp_); replace HB := a_ ((by rw [hw]; exact below_set (HB.out) GB22.out : Below w.heap.size w w25)); clear hg hw hp_))
   go_roundg k1
   case measure => have := HK1.out; omega
   case rel => exact ⟨(y156), (wrap64 (x8_1 + 1)), hW_, H', ⟨by have := HK1.out; omega⟩, ⟨hR_ HO_7.out⟩, ⟨hC_⟩⟩
end Go.Proofs.YtbnljapgnfmmoaaGreatDoor.G
end
section
-- Laid by the session's own driver gp.py over the kit's printer. Not trusted: Lean checks it.
namespace Go.Proofs.YtbnljapgnfmmoaaGreatDoor.G
open Go.RowKit Go.Proofs.YtbnljapgnfmmoaaGreatDoorW.PrintWords Go.Proofs.YtbnljapgnfmmoaaGreatDoorW.PrintLast Go.Proofs.YtbnljapgnfmmoaaGreatDoorW.PrintMore
set_option maxHeartbeats 8000000
set_option maxRecDepth 100000
attribute [local go_sem] max2_int min2_int max_two min_two max_three min_three max_four min_four   -- for this text's walks alone
set_option linter.unusedVariables false
set_option linter.unusedSimpArgs false

/-- what the program does, from the last node on -/
def sizesL (ns : List S66) (c : Int → Int) : Nat → List Int → List Int
 | 0, o => o
 | n + 1, o =>
  let o1 := o.set n (wrap64 (rd o (n : Int) + c (n : Int)))
  sizesL ns c n (if 0 < n then o1.set ((rd_T66 ns (n : Int)).f1).toNat (wrap64 (rd o1 (rd_T66 ns (n : Int)).f1 + rd o1 (n : Int))) else o1)
def sizesP (ns : List S66) (c : Int → Int) : List Int := sizesL ns c ns.length (List.replicate ns.length 0)
theorem sizesL_len (ns : List S66) (c : Int → Int) : ∀ (n : Nat) (o : List Int), (sizesL ns c n o).length = o.length
 | 0, _ => rfl
 | n + 1, o => by
  rw [sizesL, sizesL_len ns c n]
  split <;> simp
theorem infoIntS : (Tryz.prog.info? 3).map (fun i => (i.zero, i.size, i.bytes)) = some (some (.int .i64 0), 1, 8) := by kernel_rfl
section
attribute [local go_sem] Oper.semAt_some
theorem tree_Sizes.in_ (n : Nat) (hn : 2 ≤ n) (g : Nat) (lb : Array Value) (eg : ∀ args w, (callFunc g args).run Tryz.prog w = .ok (.enter g args) w) (c : Int → Int) (A0 : Option Addr) (c0 : Nat) (l0 : List S66) (h512 : l0.length ≤ 512)
 (hP : ∀ i : Int, 0 ≤ i → i < (l0.length : Int) → ((0 ≤ (rd_T66 l0 i).f1 ∧ (rd_T66 l0 i).f1 < i) ∨ (i = 0 ∧ (rd_T66 l0 i).f1 = -1))) (w : World) (hC : Kd.C k66 w A0 l0.length l0)
 (hc : ∀ (i : Int) (W : World), 0 ≤ i → i < (l0.length : Int) → Below w.heap.size w W → Calls Tryz.prog g (#[.int .i64 i] ++ lb) W fun e W' => e = .returned (.int .i64 (c i)) ∧ ∃ m, W' = W.drewN m) :
 CallsIn Fence.wide n Tryz.prog 62 #[.slice A0 l0.length c0, .func (.func g) #[] lb] w fun e w' => ∃ v, e = .returned v ∧ (Kd.int .i64).R 3 w' w.heap.size (fun _ => True) v (sizesP l0 c) ∧ Below w.heap.size w w' := by
 have HC := a_ hC
 have HCC := a_ hc
 have HPP := a_ hP
 clear hC hc hP
 have ffg : Fence.wide.fn g := trivial
 have hmk := print_make_of (P := Tryz.prog) 41 3 (.int .i64 0) 8 Tryz.underlying41 infoIntS rfl (by omega) l0.length (by omega)
 have hmix : Tryz.prog.follows .mixedOrders = true := by kernel_rfl
 refine callsIn_of_wp Tryz.func62 rfl trivial ?_ rfl
 simp only [Tryz.ntmps62, List.size_toArray, List.length_cons, List.length_nil, Nat.reduceAdd, Nat.reduceSub, Array.replicate_succ, Array.replicate_zero, List.push_toArray, List.append_toArray, List.nil_append, List.cons_append]
 have HO := a_ (own_made_of (enc := Value.int .i64) (d := (0 : Int)) w w.heap.size 3 l0.length (Nat.le_refl _) (by omega))
 gi_wp2
 gi_loopw [6] (fun v wr => ∃ x : Int, v = .int .i64 x ∧ Aside0 (-1 ≤ x ∧ x < (l0.length : Int)) ∧ Aside0 (∃ o : List Int, o.length = l0.length ∧ wr.ownsRow w.heap.size 3 1 (.slice (some ⟨w.heap.size, 0, none⟩) l0.length l0.length) l0.length (encs (Value.int .i64) o) ∧ sizesL l0 c (x + 1).toNat o = sizesP l0 c) ∧ Aside0 (Below w.heap.size w wr))
  (fun v _ => (intOf v + 1).toNat)
 case atStart =>
  exact ⟨(l0.length : Int) - 1, by first | rfl | (congr 1; omega) | (simp; omega), ⟨by omega, by omega⟩, ⟨List.replicate l0.length 0, by simp, HO.out, by rw [show ((l0.length : Int) - 1 + 1).toNat = l0.length by omega]; rfl⟩, ⟨(Below.refl _ w).alloc (Nat.le_refl _) _⟩⟩
 case round =>
  obtain ⟨x, rfl, HX, HJ, HB⟩ := hrel
  clear hmk
  by_cases hx : 0 ≤ x
  case neg =>
   have hxb := decide_eq_false hx
   have HN := a_ hx
   clear hx
   gi_wp2
   go_ret
   obtain ⟨o, ho, hrow, hsz⟩ := HJ.out
   rw [show (x + 1).toNat = 0 by have := HX.out; have := HN.out; omega, sizesL] at hsz
   subst hsz
   exact ⟨_, rfl, Kd.R_of_own (by rw [ho]; exact hrow) (fun _ _ => trivial), HB.out⟩
  have hxb := decide_eq_true hx
  have hlt : x < (l0.length : Int) := HX.out.2
  obtain ⟨o, ho, hrow, hsz⟩ := HJ.out
  obtain ⟨hcx, hfx⟩ := own_at_of (d := (0 : Int)) hrow x hx hlt
  have HR := a_ (And.intro ho (And.intro hrow (And.intro hsz hx)))
  clear ho hrow hsz
  replace hlt := eq_true hlt
  replace hx := eq_true hx
  have HQ := a_ (fun k => HCC.out x (wr.drewN k) (of_eq_true hx) (of_eq_true hlt) (below_dn HB.out k))
  gi_wp2
  refine wpIn_region_head 9 rfl hmix (by kernel_rfl) ?_
  simp only [List.take_succ_cons, List.take_zero, List.drop_succ_cons, List.drop_zero]
  iterate 6 (quiet_step_in (fail))
  quiet_step_in (exact ⟨fun _ => by omega, CallsIn.quiet_of (callsIn_wide.2 (HQ.out _))⟩)
  iterate 2 (quiet_step_in (fail))
  refine wpQuietIn_nil ?_
  intro _ hw'
  obtain ⟨nq, hw''⟩ := hw'
  subst hw''
  by_cases hx1 : 0 < x
  case neg =>
   have hx1b := decide_eq_false hx1
   gi_wp2
   obtain ⟨ho, hrow, hsz, hX⟩ := HR.out
   have hst := (own_store_of (enc := Value.int .i64) (W := wr.drewN nq) hrow x (wrap64 (rdOf 0 o x + c x))).1
   have hb2 : Below w.heap.size w ((wr.drewN nq).setCell ⟨w.heap.size, x.toNat, none⟩ (Value.int .i64 (wrap64 (rdOf 0 o x + c x)))) := (below_dn HB.out nq).setCell (p := ⟨w.heap.size, x.toNat, none⟩) (Nat.le_refl _) _
   obtain rfl : x = 0 := by omega
   rw [show wrap64 ((0 : Int) - 1) = -1 from by unfold wrap64; omega]
   refine ⟨⟨-1, rfl, ⟨by omega, by omega⟩, ⟨_, by simpa using ho, hst, ?_⟩, ⟨hb2⟩⟩, by decide⟩
   rw [← hsz]
   rfl
  have hx1b := decide_eq_true hx1
  gi_wp2
  obtain ⟨ho, hrow, hsz, _⟩ := HR.out
  have hst := (own_store_of (enc := Value.int .i64) (W := wr.drewN nq) hrow x (wrap64 (rdOf 0 o x + c x))).1
  have hb2 : Below w.heap.size w ((wr.drewN nq).setCell ⟨w.heap.size, x.toNat, none⟩ (Value.int .i64 (wrap64 (rdOf 0 o x + c x)))) := (below_dn HB.out nq).setCell (p := ⟨w.heap.size, x.toNat, none⟩) (Nat.le_refl _) _
  obtain ⟨W2, hW2⟩ : ∃ W2, (wr.drewN nq).setCell ⟨w.heap.size, x.toNat, none⟩ (Value.int .i64 (wrap64 (rdOf 0 o x + c x))) = W2 := ⟨_, rfl⟩
  obtain ⟨o1, ho1⟩ : ∃ o1, o1 = o.set x.toNat (wrap64 (rdOf 0 o x + c x)) := ⟨_, rfl⟩
  rw [hW2] at hst hb2 ⊢
  rw [← ho1] at hst
  have hX := HR.out.2.2.2
  have hpx := HPP.out x hX (of_eq_true hlt)
  obtain ⟨ad, A2, c2, e0, g0, g1, g2, g3, hl2, hi2⟩ := at_T66 HC.out x hX (of_eq_true hlt)
  cases e0
  replace g1 := (hb2.cell (World.block_lt_of_cell? w _ g1)).trans g1
  have hp0 : 0 ≤ (rd_T66 l0 x).f1 := by omega
  have hp1 : (rd_T66 l0 x).f1 < (l0.length : Int) := by have := of_eq_true hlt; omega
  obtain ⟨hc1, hf1⟩ := own_at_of (d := (0 : Int)) hst x hX (of_eq_true hlt)
  obtain ⟨hc2, hf2⟩ := own_at_of (d := (0 : Int)) hst (rd_T66 l0 x).f1 hp0 hp1
  have HS := a_ (And.intro hst (And.intro hb2 (And.intro ho1 (And.intro hp0 (And.intro hp1 hx1)))))
  clear hst hb2 hW2 ho1 hpx g0 g2 g3 hl2 hi2 hcx hfx ho hrow hsz hX hx1 hx1b
  replace hp0 := eq_true hp0
  replace hp1 := eq_true hp1
  refine wpIn_region_head 14 rfl hmix (by kernel_rfl) ?_
  simp only [List.take_succ_cons, List.take_zero, List.drop_succ_cons, List.drop_zero]
  iterate 14 (quiet_step_in (fail))
  refine wpQuietIn_nil ?_
  intro _ hw'
  obtain ⟨nq2, hw''⟩ := hw'
  subst hw''
  gi_wp2
  obtain ⟨hst, hb2, ho1, hp0', hp1', hx1'⟩ := HS.out
  obtain ⟨ho, hrow, hsz, hX⟩ := HR.out
  have hw1 : wrap64 (x - 1) = x - 1 := by have := HX.out; unfold wrap64; omega
  rw [hw1]
  refine ⟨⟨x - 1, rfl, ⟨by omega, by have := HX.out; omega⟩, ⟨_, by rw [List.length_set, ho1, List.length_set]; exact ho, (own_store_of (enc := Value.int .i64) (W := W2.drewN nq2) hst (rd_T66 l0 x).f1 _).1, ?_⟩, ⟨(below_dn hb2 nq2).setCell (p := ⟨w.heap.size, (rd_T66 l0 x).f1.toNat, none⟩) (Nat.le_refl _) _⟩⟩, by simp only [intOf]; omega⟩
  rw [← hsz, show (x + 1).toNat = x.toNat + 1 by omega, show (x - 1 + 1).toNat = x.toNat by omega, sizesL]
  simp only [show ((x.toNat : Nat) : Int) = x by omega]
  rw [if_pos (show 0 < x.toNat by omega), ho1]
  rfl
end

end Go.Proofs.YtbnljapgnfmmoaaGreatDoor.G
end
section
-- Laid by the session's own driver gp.py over the kit's printer. Not trusted: Lean checks it.
namespace Go.Proofs.YtbnljapgnfmmoaaGreatDoor.G
open Go.RowKit Go.Proofs.YtbnljapgnfmmoaaGreatDoorW.PrintWords Go.Proofs.YtbnljapgnfmmoaaGreatDoorW.PrintLast Go.Proofs.YtbnljapgnfmmoaaGreatDoorW.PrintMore
set_option maxHeartbeats 8000000
set_option maxRecDepth 100000
attribute [local go_sem] max2_int min2_int max_two min_two max_three min_three max_four min_four   -- for this text's walks alone
set_option linter.unusedVariables false
set_option linter.unusedSimpArgs false

def openB (d : List Bool) (ms : List Int) (i : Int) : Bool := rdOf false d i && (rd ms i == 0)
def oneB (d : List Bool) (ms : List Int) (i : Int) : Int := if openB d ms i = true then 1 else 0
def szH (ns : List S66) (d : List Bool) (ms : List Int) : List Int := sizesP ns (oneB d ms)
def offW (x m : Int) : Int := mx (wrap64 (wrap64 (2 * x) - m)) (wrap64 (m - wrap64 (2 * x)))
theorem off_calls (x m : Int) (W : World) : Calls Tryz.prog 64 #[.int .i64 x, .int .i64 m] W fun e W' => e = .returned (.int .i64 (offW x m)) ∧ W' = W := by
 unfold offW mx
 by_cases c : wrap64 (wrap64 (2 * x) - m) < wrap64 (m - wrap64 (2 * x))
 case pos =>
  rw [if_pos c]
  go_enter Tryz.func64, Tryz.ntmps64
  go_wp2
  go_ret
  exact ⟨rfl, rfl⟩
 rw [if_neg c]
 go_enter Tryz.func64, Tryz.ntmps64
 go_wp2
 go_ret
 exact ⟨rfl, rfl⟩
def bestH (sz : List Int) (d : List Bool) (ms : List Int) (m : Int) : Nat → Int
 | 0 => -1
 | n + 1 => if openB d ms (n : Int) = true ∧ (bestH sz d ms m n < 0 ∨ offW (rd sz (n : Int)) m < offW (rd sz (bestH sz d ms m n)) m) then (n : Int) else bestH sz d ms m n
theorem bestH_range (sz : List Int) (d : List Bool) (ms : List Int) (m : Int) : ∀ n : Nat, -1 ≤ bestH sz d ms m n ∧ bestH sz d ms m n < (n : Int)
 | 0 => ⟨Int.le_refl _, by show (-1 : Int) < 0; omega⟩
 | n + 1 => by
  have := bestH_range sz d ms m n
  rw [bestH]
  split <;> omega
def parB (ns : List S66) : Bool := (List.range ns.length).all fun i => decide ((0 ≤ (rd_T66 ns (i : Int)).f1 ∧ (rd_T66 ns (i : Int)).f1 < (i : Int)) ∨ ((i : Int) = 0 ∧ (rd_T66 ns (i : Int)).f1 = -1))
theorem parB_at {ns : List S66} (h : parB ns = true) (i : Int) (h0 : 0 ≤ i) (h1 : i < (ns.length : Int)) : ((0 ≤ (rd_T66 ns i).f1 ∧ (rd_T66 ns i).f1 < i) ∨ (i = 0 ∧ (rd_T66 ns i).f1 = -1)) := by
 have := of_decide_eq_true (List.all_eq_true.1 h i.toNat (List.mem_range.2 (by omega)))
 rw [show ((i.toNat : Nat) : Int) = i by omega] at this
 exact this
def half_Ask.f (k : Nat) (l0 : List S66) (l1 : List Int) : Option (Int × Int) :=
 if 0 < l0.length ∧ l0.length ≤ 512 ∧ l1.length = l0.length ∧ parB l0 = true then
  (if rd l1 0 = 2 then (half_last.f k l1).bind fun w => (half_doubts.f k l0 l1 w).bind fun d =>
   if 0 ≤ w ∧ w < (l0.length : Int) ∧ d.length = l0.length then
    (if bestH (szH l0 d l1) d l1 (rd (szH l0 d l1) w) l0.length < 0 then top_Bug.f l0 l1 w else some (0, bestH (szH l0 d l1) d l1 (rd (szH l0 d l1) w) l0.length)) else none
  else top_Ask.f k l0 l1) else none
theorem half_Ask.mono : ∀ a0 a1 k, LeO (half_Ask.f k a0 a1) (half_Ask.f (k + 1) a0 a1) := by
 intro a0 a1 k
 unfold half_Ask.f
 refine LeO.ite (LeO.ite (LeO.bind (half_last.mono _ _) (fun _ => LeO.bind (half_doubts.mono _ _ _ _) (fun _ => LeO.refl _))) (top_Ask.mono _ _ _)) (LeO.none _)
theorem open_calls (W : World) (Bd Bm : Nat) (d : List Bool) (ms : List Int) (Ad : Option Addr) (cd : Nat) (A1 : Option Addr) (c1 : Nat) (hd : W.cell? ⟨Bd, 0, none⟩ = some (.slice Ad d.length cd)) (hm : W.cell? ⟨Bm, 0, none⟩ = some (.slice A1 ms.length c1))
 (hD : Kd.C Kd.bool W Ad d.length d) (hM : Kd.C (Kd.int .i64) W A1 ms.length ms) (i : Int) (h0 : 0 ≤ i) (h1 : i < (d.length : Int)) (h2 : i < (ms.length : Int)) :
 Calls Tryz.prog 61 #[.int .i64 i, .pointer (some ⟨Bd, 0, none⟩), .pointer (some ⟨Bm, 0, none⟩)] W fun e W' => e = .returned (.bool (openB d ms i)) ∧ W' = W := by
 obtain ⟨ad, e0, g0⟩ := Kd.at_bool hD i h0 h1
 cases e0
 obtain ⟨am, e1, g1⟩ := Kd.at_int hM i h0 h2
 cases e1
 unfold openB
 clear hD hM
 replace h0 := eq_true h0
 replace h1 := eq_true h1
 replace h2 := eq_true h2
 cases hb : rdOf false d i with
 | true =>
  rw [hb] at g0
  rw [Bool.true_and]
  go_enter Tryz.func61, Tryz.ntmps61
  go_wp2
  go_ret
  exact ⟨rfl, rfl⟩
 | false =>
  rw [hb] at g0
  rw [Bool.false_and]
  go_enter Tryz.func61, Tryz.ntmps61
  go_wp2
  go_ret
  exact ⟨rfl, rfl⟩
theorem one_calls (W : World) (Bf Bd Bm : Nat) (d : List Bool) (ms : List Int) (Ad : Option Addr) (cd : Nat) (A1 : Option Addr) (c1 : Nat) (hf : W.cell? ⟨Bf, 0, none⟩ = some (.func (.func 61) #[] #[.pointer (some ⟨Bd, 0, none⟩), .pointer (some ⟨Bm, 0, none⟩)])) (hd : W.cell? ⟨Bd, 0, none⟩ = some (.slice Ad d.length cd)) (hm : W.cell? ⟨Bm, 0, none⟩ = some (.slice A1 ms.length c1))
 (hD : Kd.C Kd.bool W Ad d.length d) (hM : Kd.C (Kd.int .i64) W A1 ms.length ms) (i : Int) (h0 : 0 ≤ i) (h1 : i < (d.length : Int)) (h2 : i < (ms.length : Int)) :
 Calls Tryz.prog 63 #[.int .i64 i, .pointer (some ⟨Bf, 0, none⟩)] W fun e W' => e = .returned (.int .i64 (oneB d ms i)) ∧ ∃ m, W' = W.drewN m := by
 have h : Calls Tryz.prog 63 #[.int .i64 i, .pointer (some ⟨Bf, 0, none⟩)] W fun e W' => e = .returned (.int .i64 (oneB d ms i)) ∧ W' = W := by
  have HO := a_ (open_calls W Bd Bm d ms Ad cd A1 c1 hd hm hD hM i h0 h1 h2)
  clear hd hm hD hM
  unfold oneB
  cases ho : openB d ms i with
  | true =>
   rw [ho] at HO
   rw [if_pos rfl]
   go_enter Tryz.func63, Tryz.ntmps63
   go_wp2_with (first
    | (go_at_call 61; refine HO.out.mono ?_; rintro e w5 ⟨rfl, rfl⟩))
   go_ret
   exact ⟨rfl, rfl⟩
  | false =>
   rw [ho] at HO
   rw [if_neg Bool.false_ne_true]
   go_enter Tryz.func63, Tryz.ntmps63
   go_wp2_with (first
    | (go_at_call 61; refine HO.out.mono ?_; rintro e w5 ⟨rfl, rfl⟩))
   go_ret
   exact ⟨rfl, rfl⟩
 exact h.mono fun e W' ⟨h1, h2⟩ => ⟨h1, 0, h2⟩
def Half8 (w : World) (am : Addr) (c1 : Nat) (l1 : List Int) (Ad : Option Addr) (cd : Nat) (d : List Bool) (Bd Bf : Nat) (w8 : World) : Prop :=
 (Below w.heap.size w w8 ∧ Boxed w8 w.heap.size 41 (.slice (some am) l1.length c1) ∧ Boxed2 w8 (w.heap.size + 1) 49 (.int .i64 0) (.int .i64 0)) ∧
 (Boxed w8 Bd 85 (.slice Ad d.length cd) ∧ Boxed w8 Bf 47 (.func (.func 61) #[] #[.pointer (some ⟨Bd, 0, none⟩), .pointer (some ⟨w.heap.size, 0, none⟩)])) ∧ Kd.C Kd.bool w8 Ad d.length d ∧ Kd.C (Kd.int .i64) w8 (some am) l1.length l1
theorem half_sizes (n : Nat) (hn : 2 ≤ n) (w W2 w6 W6a W7 : World) (nd : Nat) (A0 : Option Addr) (c0 : Nat) (l0 : List (S66)) (am : Addr) (c1 : Nat) (l1 : List Int) (Ad : Option Addr) (cd : Nat) (d : List Bool)
 (hr0 : Kd.C k66 w A0 l0.length l0) (hr1 : Kd.C (Kd.int .i64) w (some am) l1.length l1) (h512 : l0.length ≤ 512) (hp : parB l0 = true) (hl : l1.length = l0.length) (hdl : d.length = l0.length)
 (h2 : Below w.heap.size w W2 ∧ Boxed W2 w.heap.size 41 (.slice (some am) l1.length c1) ∧ Boxed2 W2 (w.heap.size + 1) 49 (.int .i64 0) (.int .i64 0))
 (hR6 : Kd.R Kd.bool 4 w6 (W2.drewN nd).heap.size (fun _ => True) (.slice Ad d.length cd) d) (hb6 : Below (W2.drewN nd).heap.size (W2.drewN nd) w6)
 (h6a : (w6.alloc (.cells #[.slice none 0 0] 85)).setCell ⟨w6.heap.size, 0, none⟩ (.slice Ad d.length cd) = W6a)
 (h7 : W6a.alloc (.cells #[.func (.func 61) #[] #[.pointer (some ⟨w6.heap.size, 0, none⟩), .pointer (some ⟨w.heap.size, 0, none⟩)]] 47) = W7) :
 CallsIn Fence.wide n Tryz.prog 62 #[.slice A0 l0.length c0, .func (.func 63) #[] #[.pointer (some ⟨W6a.heap.size, 0, none⟩)]] W7 fun e w8 =>
  ∃ Az cz, e = .returned (.slice Az l0.length cz) ∧ Kd.C (Kd.int .i64) w8 Az l0.length (szH l0 d l1) ∧ Half8 w am c1 l1 Ad cd d w6.heap.size W6a.heap.size w8 := by
 have sz : ∀ (W : World) (p : Addr) (v : Value), (W.setCell p v).heap.size = W.heap.size := fun W p v => by show (W.heap.modify _ _).size = _; rw [Array.size_modify]
 have e6 : W6a.heap.size = w6.heap.size + 1 := by rw [← h6a, sz]; simp
 have e7 : W7.heap.size = w6.heap.size + 2 := by rw [← h7, World.size_alloc, e6]
 have s2 := h2.2.2.lt
 have s6 : W2.heap.size ≤ w6.heap.size := hb6.size
 have B6a : Below w6.heap.size w6 W6a := by rw [← h6a]; exact ((Below.refl _ w6).alloc (Nat.le_refl _) _).setCell (p := ⟨w6.heap.size, 0, none⟩) (Nat.le_refl _) _
 have B7 : Below w6.heap.size w6 W7 := by rw [← h7]; exact B6a.alloc (by omega) _
 have bd6 : Boxed W6a w6.heap.size 85 (.slice Ad d.length cd) := by rw [← h6a]; exact (Boxed.new w6 _ _).set _
 have bd : Boxed W7 w6.heap.size 85 (.slice Ad d.length cd) := by rw [← h7]; exact bd6.alloc _
 have bf : Boxed W7 W6a.heap.size 47 (.func (.func 61) #[] #[.pointer (some ⟨w6.heap.size, 0, none⟩), .pointer (some ⟨w.heap.size, 0, none⟩)]) := by rw [← h7]; exact Boxed.new W6a _ _
 have hB6 : Below w.heap.size w w6 := (below_dn h2.1 nd).trans (hb6.mono h2.1.size)
 have hB7 : Below w.heap.size w W7 := hB6.trans (B7.mono hB6.size)
 have m6 : Boxed w6 w.heap.size 41 (.slice (some am) l1.length c1) := (hb6.block _ (by show w.heap.size < W2.heap.size; omega)).trans h2.2.1
 have r6 : Boxed2 w6 (w.heap.size + 1) 49 (.int .i64 0) (.int .i64 0) := (hb6.block _ (by show w.heap.size + 1 < W2.heap.size; omega)).trans h2.2.2
 have m7 : Boxed W7 w.heap.size 41 (.slice (some am) l1.length c1) := (B7.block _ (by omega)).trans m6
 have r7 : Boxed2 W7 (w.heap.size + 1) 49 (.int .i64 0) (.int .i64 0) := (B7.block _ (by omega)).trans r6
 have d7 : Kd.C Kd.bool W7 Ad d.length d := Kd.C_below (Kd.R_reads' hR6).2.2 B7
 have c7 : Kd.C (Kd.int .i64) W7 (some am) l1.length l1 := Kd.C_below hr1 hB7
 refine (tree_Sizes.in_ n hn 63 #[.pointer (some ⟨W6a.heap.size, 0, none⟩)] (enters_of Tryz.func63 (by kernel_rfl) rfl) (oneB d l1) A0 c0 l0 h512 (parB_at hp) W7 (Kd.C_below hr0 hB7)
  (fun i W h0 h1 hb => one_calls W W6a.heap.size w6.heap.size w.heap.size d l1 Ad cd (some am) c1 (Boxed.cell (show Boxed W W6a.heap.size _ _ from (hb.block _ (by omega)).trans bf)) (Boxed.cell (show Boxed W w6.heap.size _ _ from (hb.block _ (by omega)).trans bd)) (Boxed.cell (show Boxed W w.heap.size _ _ from (hb.block _ (by omega)).trans m7)) (Kd.C_below d7 hb) (Kd.C_below c7 hb) i h0 (by omega) (by omega))).mono ?_
 rintro e w8 ⟨v, rfl, hr, hb⟩
 obtain ⟨Az, cz, rfl, hlz, hC⟩ := Kd.R_reads hr
 have hlen : (szH l0 d l1).length = l0.length := by show (sizesP l0 (oneB d l1)).length = _; unfold sizesP; rw [sizesL_len, List.length_replicate]
 have hC' : Kd.C (Kd.int .i64) w8 Az (szH l0 d l1).length (szH l0 d l1) := hC
 rw [hlen] at hC'
 have e9 : (sizesP l0 (oneB d l1)).length = l0.length := hlen
 refine ⟨Az, cz, by rw [e9], hC', ⟨hB7.trans (hb.mono hB7.size), (hb.block _ (by omega)).trans m7, (hb.block _ (by omega)).trans r7⟩, ⟨(hb.block _ (by omega)).trans bd, (hb.block _ (by omega)).trans bf⟩, Kd.C_below d7 hb, Kd.C_below c7 hb⟩
theorem run_store_func (P : Program) (w : World) (a : Addr) (m : Mode) (f : Fn) (x y : Array Value) : (store a (.func f x y) m).run P w = stored P w a (.func f x y) m := run_store P w a _ m rfl
section
attribute [local go_sem] Oper.semAt_some run_store_func
theorem half_Ask.inW (n : Nat) (hn : 4 ≤ n) (k : Nat) (A0 : Option Addr) (c0 : Nat) (l0 : List (S66)) (A1 : Option Addr) (c1 : Nat) (l1 : List Int) (wg : Int) (d : List Bool) (r1 r2 : Int) (w : World) (hr0 : Kd.C k66 w A0 l0.length l0) (hc0 : l0.length ≤ c0) (hr1 : Kd.C (Kd.int .i64) w A1 l1.length l1) (hc1 : l1.length ≤ c1)
 (h0 : rd l1 0 = 2) (hn0 : 0 < l0.length) (h512 : l0.length ≤ 512) (hl : l1.length = l0.length) (hp : parB l0 = true) (hL : half_last.f k l1 = some wg) (hD : half_doubts.f k l0 l1 wg = some d) (hw0 : 0 ≤ wg) (hw1 : wg < (l0.length : Int)) (hdl : d.length = l0.length)
 (hr : (if bestH (szH l0 d l1) d l1 (rd (szH l0 d l1) wg) l0.length < 0 then top_Bug.f l0 l1 wg else some (0, bestH (szH l0 d l1) d l1 (rd (szH l0 d l1) wg) l0.length)) = some (r1, r2)) :
 CallsIn Fence.wide n Tryz.prog 50 #[.slice A0 l0.length c0, .slice A1 l1.length c1] w fun e w' => e = .returned (.agg #[.int .i64 r1, .int .i64 r2]) ∧ Below w.heap.size w w' := by
 have hn1 : 1 ≤ n := by omega
 obtain ⟨am, e, g⟩ := Kd.at_int hr1 0 (by omega) (by omega)
 cases e
 have HR0 := a_ hr0
 have HC0 := a_ hc0
 have HR1 := a_ hr1
 have HC1 := a_ hc1
 have HL := a_ hL
 have HD := a_ hD
 have HRR := a_ hr
 have HM := a_ (And.intro hw0 (And.intro hw1 (And.intro hl (And.intro h512 (And.intro hdl (And.intro hn0 hp))))))
 have hmix : Tryz.prog.follows .mixedOrders = true := by kernel_rfl
 have hu := Tryz.underlying49
 have hB2 : Below w.heap.size w ((w.alloc (.cells #[.slice (some am) l1.length c1] 41)).alloc (.cells #[.int .i64 0, .int .i64 0] 49)) := ((Below.refl _ w).alloc (Nat.le_refl _) _).alloc (by simp) _
 have bx0 := ((Boxed.new w 41 (.slice (some am) l1.length c1)).alloc (.cells #[.int .i64 0, .int .i64 0] 49))
 have bx1 := Boxed2.new (w.alloc (.cells #[.slice (some am) l1.length c1] 41)) 49 (.int .i64 0) (.int .i64 0)
 simp only [World.size_alloc] at bx1
 have g1 := (hB2.cell (World.block_lt_of_cell? w _ g)).trans g
 rw [h0] at g1
 have cb := bx0.cell
 have HB2 := a_ (And.intro hB2 (And.intro bx0 bx1))
 have hpos : ((0 : Int) < (l1.length : Int)) = True := eq_true (by omega)
 have hposn : (0 < l1.length) = True := eq_true (by omega)
 clear hr0 hc0 hr1 hc1 hL hD hr hw0 hw1 hl h512 hdl hn0 hp g h0 bx0 bx1 hB2
 obtain ⟨W2, hW2⟩ : ∃ W2, (w.alloc (.cells #[.slice (some am) l1.length c1] 41)).alloc (.cells #[.int .i64 0, .int .i64 0] 49) = W2 := ⟨_, rfl⟩
 rw [hW2] at g1 cb HB2
 rw [show am.add (Int.toNat 0) = am from by cases am; rfl] at g1
 refine callsIn_of_wp Tryz.func50 rfl trivial ?_ rfl
 simp only [Tryz.ntmps50, List.size_toArray, List.length_cons, List.length_nil, Nat.reduceAdd, Nat.reduceSub, Array.replicate_succ, Array.replicate_zero, List.push_toArray, List.append_toArray, List.nil_append, List.cons_append]
 have ff1 : Fence.wide.fn 59 := trivial
 have ff2 : Fence.wide.fn 60 := trivial
 have ff3 : Fence.wide.fn 62 := trivial
 have ff4 : Fence.wide.fn 61 := trivial
 have ff5 : Fence.wide.fn 64 := trivial
 have ff6 : Fence.wide.fn 65 := trivial
 have ls2 : w.heap.size + 1 < W2.heap.size := HB2.out.2.2.lt
 have LS2 := a_ ls2
 clear ls2
 gi_wp2_with (first
  | (gi_at_call 59; refine ((callsIn_wide (n := n - 1)).2 (half_last.calls k _ _ l1 wg _ (Kd.C_below HR1.out HB2.out.1) HC1.out HL.out)).mono ?_; rintro e w5 ⟨rfl, ⟨nd, rfl⟩⟩; have cb5 : (W2.drewN nd).cell? ⟨w.heap.size, 0, none⟩ = some (.slice (some am) l1.length c1) := HB2.out.2.1.cell)
  | (gi_at_call 60; refine ((callsIn_wide (n := n - 1)).2 (half_doubts.calls k _ _ l0 _ _ l1 wg d _ (Kd.C_below HR0.out (below_dn HB2.out.1 _)) HC0.out (Kd.C_below HR1.out (below_dn HB2.out.1 _)) HC1.out HD.out)).mono ?_; rintro e w6 ⟨v6, rfl, hR6, hb6⟩; obtain ⟨Ad, cd, e6⟩ := Kd.R_slice hR6; subst e6; have cb6 : w6.cell? ⟨w.heap.size, 0, none⟩ = some (.slice (some am) l1.length c1) := (hb6.cell (p := ⟨w.heap.size, 0, none⟩) (Nat.lt_of_succ_lt LS2.out)).trans HB2.out.2.1.cell; have HX6 := a_ (And.intro hR6 hb6); clear hR6 hb6; obtain ⟨W6a, hW6a⟩ : ∃ W6a, (w6.alloc (.cells #[.slice none 0 0] 85)).setCell ⟨w6.heap.size, 0, none⟩ (.slice Ad d.length cd) = W6a := ⟨_, rfl⟩)
  | (gi_at_call 62; generalize hW7 : World.alloc _ _ = W7; refine (half_sizes (n - 1) (by omega) w W2 w6 W6a W7 _ A0 c0 l0 am c1 l1 Ad cd d HR0.out HR1.out HM.out.2.2.2.1 HM.out.2.2.2.2.2.2 HM.out.2.2.1 HM.out.2.2.2.2.1 HB2.out HX6.out.1 HX6.out.2 hW6a hW7).mono ?_; rintro e w8 ⟨Az, cz, rfl, hz8, h8⟩; obtain ⟨az, e8, g8⟩ := Kd.at_int hz8 wg HM.out.1 HM.out.2.1; subst e8; have p8 := eq_true HM.out.1; have q8 := eq_true HM.out.2.1; have HZ := a_ (And.intro hz8 h8); clear hz8 h8 hW7 hW6a cb cb5 cb6 g1 hpos hposn hW2))
 clear g8 p8 q8
 obtain ⟨sz, hsz⟩ : ∃ sz, szH l0 d l1 = sz := ⟨_, rfl⟩
 rw [hsz] at HZ HRR
 simp only [hsz]
 obtain ⟨m, hm⟩ : ∃ m, rd sz wg = m := ⟨_, rfl⟩
 rw [hm] at HRR
 simp only [hm]
 gi_loopw [10, 36] (fun v10 v36 wr => ∃ b x : Int, v10 = .int .i64 b ∧ v36 = .int .i64 x ∧ Aside0 (0 ≤ x ∧ x ≤ (l0.length : Int)) ∧ Aside0 (b = bestH sz d l1 m x.toNat ∧ ∃ q, wr = w8.drewN q))
  (fun _ v _ => l0.length - (intOf v).toNat)
 case atStart => exact ⟨-1, 0, by first | rfl | (congr 1; omega), by first | rfl | (congr 1; omega), ⟨by omega, by omega⟩, ⟨rfl, 0, rfl⟩⟩
 case round =>
  obtain ⟨b, x, rfl, rfl, HX, HBq⟩ := hrel
  obtain ⟨hb, q, hq⟩ := HBq.out
  have hbr := bestH_range sz d l1 m x.toNat
  rw [← hb] at hbr
  obtain ⟨⟨hB8, bm8, br8⟩, ⟨bd8, bf8⟩, hd8, hc8⟩ := HZ.out.2
  have hz8 := HZ.out.1
  by_cases hlt : x < (l0.length : Int)
  case neg =>
   have hltb := decide_eq_false hlt
   have hxl : x.toNat = l0.length := by have := HX.out; omega
   rw [hxl] at hb
   clear hbr
   rw [← hb] at HRR
   have hm' : wr.cell? ⟨w.heap.size, 0, none⟩ = some (.slice (some am) l1.length c1) := by rw [hq]; exact bm8.cell
   have hr' : Boxed2 wr (w.heap.size + 1) 49 (.int .i64 0) (.int .i64 0) := by rw [hq]; exact br8
   have hB' : Below w.heap.size w wr := by rw [hq]; exact below_dn hB8 q
   have HE := a_ (And.intro hr' hB')
   clear hlt hq hz8 hB8 bm8 br8 bd8 bf8 hd8 hc8 hxl
   have f0_ := hr'.f0
   have f1_ := hr'.f1
   have c0_ := hr'.c0
   have c1_ := hr'.c1
   clear hr' hB'
   by_cases hb0 : b < 0
   case neg =>
    have hrr := HRR.out
    rw [if_neg hb0] at hrr
    clear hb HBq
    obtain ⟨e1_, e2_⟩ := Prod.mk.inj (Option.some.inj hrr)
    subst e1_
    subst e2_
    have hb0b := decide_eq_false hb0
    clear hb0 hrr HRR
    gi_wp2
    refine bodyPost_ret (results_cell_row rfl _ _ (w.heap.size + 1) 49 #[.int .i64 0, .int .i64 b] (0, 0) _ rfl (HE.out.1.put _ _) Tryz.underlying49 rfl (by kernel_rfl)) rfl ⟨rfl, ?_⟩
    exact (HE.out.2.setCell (p := ⟨w.heap.size + 1, 0, none⟩) (Nat.le_succ _) _).setCell (p := ⟨w.heap.size + 1, 1, none⟩) (Nat.le_succ _) _
   have hb0b := decide_eq_true hb0
   have hrr := HRR.out
   rw [if_pos hb0] at hrr
   have HB0 := a_ hrr
   clear hb0 hrr hb
   gi_wp2_with (first
    | (gi_at_call 65; refine ((callsIn_wide (n := n - 1)).2 (top_Bug.calls _ _ l0 _ _ l1 wg r1 r2 _ (Kd.C_below HR0.out HE.out.2) HC0.out (Kd.C_below HR1.out HE.out.2) HC1.out HB0.out)).mono ?_; rintro e w9 ⟨rfl, hb9⟩; have hr9 : Boxed2 w9 (w.heap.size + 1) 49 (.int .i64 0) (.int .i64 0) := (hb9.block _ HE.out.1.lt).trans HE.out.1; have HE9 := a_ (And.intro hr9 (HE.out.2.trans (hb9.mono HE.out.2.size))); have f90 := hr9.f0; have f91 := hr9.f1; have c90 := hr9.c0; have c91 := hr9.c1; clear hr9 hb9))
   refine bodyPost_ret (results_cell_row rfl _ _ (w.heap.size + 1) 49 #[.int .i64 r1, .int .i64 r2] (0, 0) _ rfl (HE9.out.1.put _ _) Tryz.underlying49 rfl (by kernel_rfl)) rfl ⟨rfl, ?_⟩
   exact (HE9.out.2.setCell (p := ⟨w.heap.size + 1, 0, none⟩) (Nat.le_succ _) _).setCell (p := ⟨w.heap.size + 1, 1, none⟩) (Nat.le_succ _) _
  have hltb := decide_eq_true hlt
  have hx0 : 0 ≤ x := HX.out.1
  obtain ⟨az', e9, g9⟩ := Kd.at_int hz8 x hx0 hlt
  cases e9
  have g9' : wr.cell? (az.add x.toNat) = some (.int .i64 (rd sz x)) := by rw [hq]; exact g9
  have cf : wr.cell? ⟨W6a.heap.size, 0, none⟩ = some (.func (.func 61) #[] #[.pointer (some ⟨w6.heap.size, 0, none⟩), .pointer (some ⟨w.heap.size, 0, none⟩)]) := by rw [hq]; exact bf8.cell
  have HQ := a_ (fun k => (open_calls (wr.drewN k) w6.heap.size w.heap.size d l1 Ad cd (some am) c1 (by rw [hq]; exact bd8.cell) (by rw [hq]; exact bm8.cell) (by rw [hq]; exact hd8) (by rw [hq]; exact hc8) x hx0 (by have := HM.out.2.2.2.2.1; omega) (by have := HM.out.2.2.1; omega)).mono (R' := fun e W' => e = .returned (.bool (openB d l1 x)) ∧ ∃ m, W' = (wr.drewN k).drewN m) (fun e W' ⟨h1, h2⟩ => ⟨h1, 0, h2⟩))
  have HF := a_ (fun (y : Int) k => (off_calls y m (wr.drewN k)).mono (R' := fun e W' => e = .returned (.int .i64 (offW y m)) ∧ ∃ q, W' = (wr.drewN k).drewN q) (fun e W' ⟨h1, h2⟩ => ⟨h1, 0, h2⟩))
  have HK := a_ (And.intro hb (And.intro hq (And.intro hbr (And.intro hx0 hlt))))
  have hw1 : wrap64 (x + 1) = x + 1 := by have := HM.out.2.2.2.1; unfold wrap64; omega
  have HW := a_ hw1
  have hbx : bestH sz d l1 m (x + 1).toNat = if openB d l1 x = true ∧ (b < 0 ∨ offW (rd sz x) m < offW (rd sz b) m) then x else b := by
   rw [show (x + 1).toNat = x.toNat + 1 by omega, bestH, ← hb, show ((x.toNat : Nat) : Int) = x by omega]
  have HBX := a_ hbx
  have hms : l0.length - (x + 1).toNat < l0.length - x.toNat := by omega
  have HMS := a_ hms
  have hx9 : 0 ≤ x + 1 ∧ x + 1 ≤ (l0.length : Int) := by omega
  have HX9 := a_ hx9
  clear hb hq hbr hw1 hbx hms hx9 hz8 hB8 bm8 br8 bd8 bf8 hd8 hc8 g9
  replace hlt := eq_true hlt
  replace hx0 := eq_true hx0
  cases ho : openB d l1 x with
  | false =>
   rw [ho] at HQ HBX
   clear ho
   gi_wp2
   refine wpIn_region_quiet_lit rfl hmix (by kernel_rfl) ?_
   iterate 2 (quiet_step_in (fail))
   quiet_step_in (exact CallsIn.quiet_of (callsIn_wide.2 (HQ.out _)))
   quiet_step_in (fail)
   iterate 14 (refine BigFrame.wpQuietIn_skip (fun _ _ _ _ => trivial) (by first | rfl | kernel_rfl | simp [Region.wanted, yielded]) ?_; simp only [Act.put, List.setIfInBounds_toArray, List.set_cons_succ, List.set_cons_zero])
   quiet_step_in (fail)
   refine wpQuietIn_nil ?_
   intro _ hw'
   obtain ⟨nq, hw''⟩ := hw'
   subst hw''
   gi_wp2
   rw [HW.out]
   exact ⟨⟨b, x + 1, rfl, rfl, ⟨HX9.out⟩, ⟨by rw [HBX.out]; simp, q + nq, by rw [HK.out.2.1]; exact World.drewN_drewN _ _ _⟩⟩, by simp only [intOf]; exact HMS.out⟩
  | true =>
   rw [ho] at HQ HBX
   clear ho
   by_cases hb0 : b < 0
   case pos =>
    have hb0b := decide_eq_true hb0
    have HB0 := a_ hb0
    clear hb0
    gi_wp2
    refine wpIn_region_quiet_lit rfl hmix (by kernel_rfl) ?_
    iterate 2 (quiet_step_in (fail))
    quiet_step_in (exact CallsIn.quiet_of (callsIn_wide.2 (HQ.out _)))
    iterate 4 (quiet_step_in (fail))
    iterate 10 (refine BigFrame.wpQuietIn_skip (fun _ _ _ _ => trivial) (by first | rfl | kernel_rfl | simp [Region.wanted, yielded]) ?_; simp only [Act.put, List.setIfInBounds_toArray, List.set_cons_succ, List.set_cons_zero])
    iterate 2 (quiet_step_in (fail))
    refine wpQuietIn_nil ?_
    intro _ hw'
    obtain ⟨nq, hw''⟩ := hw'
    subst hw''
    gi_wp2
    rw [HW.out]
    exact ⟨⟨x, x + 1, rfl, rfl, ⟨HX9.out⟩, ⟨by rw [HBX.out]; simp [HB0.out], q + nq, by rw [HK.out.2.1]; exact World.drewN_drewN _ _ _⟩⟩, by simp only [intOf]; exact HMS.out⟩
   have hb0b := decide_eq_false hb0
   have hb1 : 0 ≤ b := by omega
   have hb2 : b < (l0.length : Int) := by have := HK.out.2.2.1.2; have := HX.out; omega
   obtain ⟨az'', e9, g10⟩ := Kd.at_int HZ.out.1 b hb1 hb2
   cases e9
   have g10' : wr.cell? (az.add b.toNat) = some (.int .i64 (rd sz b)) := by rw [HK.out.2.1]; exact g10
   have HB0 := a_ hb0
   clear hb0 g10
   replace hb1 := eq_true hb1
   replace hb2 := eq_true hb2
   obtain ⟨o1, ho1⟩ : ∃ o1, offW (rd sz x) m = o1 := ⟨_, rfl⟩
   obtain ⟨o2, ho2⟩ : ∃ o2, offW (rd sz b) m = o2 := ⟨_, rfl⟩
   have H1 := a_ (fun k => HF.out (rd sz x) k)
   have H2 := a_ (fun k => HF.out (rd sz b) k)
   rw [ho1] at H1 HBX
   rw [ho2] at H2 HBX
   by_cases hoo : o1 < o2
   case pos =>
    have hoob := decide_eq_true hoo
    have HOO := a_ hoo
    clear hoo ho1 ho2
    gi_wp2
    refine wpIn_region_quiet_lit rfl hmix (by kernel_rfl) ?_
    iterate 2 (quiet_step_in (fail))
    quiet_step_in (exact CallsIn.quiet_of (callsIn_wide.2 (HQ.out _)))
    iterate 6 (quiet_step_in (fail))
    quiet_step_in (exact CallsIn.quiet_of (callsIn_wide.2 (H1.out _)))
    iterate 5 (quiet_step_in (fail))
    quiet_step_in (exact CallsIn.quiet_of (callsIn_wide.2 (H2.out _)))
    iterate 3 (quiet_step_in (fail))
    refine wpQuietIn_nil ?_
    intro _ hw'
    obtain ⟨nq, hw''⟩ := hw'
    subst hw''
    gi_wp2
    rw [HW.out]
    exact ⟨⟨x, x + 1, rfl, rfl, ⟨HX9.out⟩, ⟨by rw [HBX.out]; simp [HOO.out], q + nq, by rw [HK.out.2.1]; exact World.drewN_drewN _ _ _⟩⟩, by simp only [intOf]; exact HMS.out⟩
   have hoob := decide_eq_false hoo
   have HOO := a_ hoo
   clear hoo ho1 ho2
   gi_wp2
   refine wpIn_region_quiet_lit rfl hmix (by kernel_rfl) ?_
   iterate 2 (quiet_step_in (fail))
   quiet_step_in (exact CallsIn.quiet_of (callsIn_wide.2 (HQ.out _)))
   iterate 6 (quiet_step_in (fail))
   quiet_step_in (exact CallsIn.quiet_of (callsIn_wide.2 (H1.out _)))
   iterate 5 (quiet_step_in (fail))
   quiet_step_in (exact CallsIn.quiet_of (callsIn_wide.2 (H2.out _)))
   iterate 3 (quiet_step_in (fail))
   refine wpQuietIn_nil ?_
   intro _ hw'
   obtain ⟨nq, hw''⟩ := hw'
   subst hw''
   gi_wp2
   rw [HW.out]
   exact ⟨⟨b, x + 1, rfl, rfl, ⟨HX9.out⟩, ⟨by rw [HBX.out, if_neg (fun h => by have h1 := HB0.out; have h2 := HOO.out; have h3 := h.2; omega)], q + nq, by rw [HK.out.2.1]; exact World.drewN_drewN _ _ _⟩⟩, by simp only [intOf]; exact HMS.out⟩
end
theorem half_Ask.calls (k : Nat) (A0 : Option Addr) (c0 : Nat) (l0 : List (S66)) (A1 : Option Addr) (c1 : Nat) (l1 : List Int) (r1 : Int) (r2 : Int) (w : World) (hr0 : Kd.C k66 w A0 l0.length l0) (hc0 : l0.length ≤ c0) (hr1 : Kd.C (Kd.int .i64) w A1 l1.length l1) (hc1 : l1.length ≤ c1) (h : half_Ask.f k l0 l1 = some (r1, r2)) (hG : GOK w) :
 Calls Tryz.prog 50 #[.slice A0 l0.length c0, .slice A1 l1.length c1] w fun e w' => e = .returned (.agg #[.int .i64 r1, .int .i64 r2]) ∧ Below w.heap.size w w' := by
 unfold half_Ask.f at h
 by_cases cg : 0 < l0.length ∧ l0.length ≤ 512 ∧ l1.length = l0.length ∧ parB l0 = true
 case neg =>
  rw [if_neg cg] at h; cases h

 rw [if_pos cg] at h
 by_cases c2 : rd l1 0 = 2
 case pos =>
  rw [if_pos c2] at h
  obtain ⟨wg, hL, h⟩ := Option.bind_eq_some_iff.mp h
  obtain ⟨d, hD, h⟩ := Option.bind_eq_some_iff.mp h
  by_cases cw : 0 ≤ wg ∧ wg < (l0.length : Int) ∧ d.length = l0.length
  case neg =>
   rw [if_neg cw] at h; cases h
  rw [if_pos cw] at h
  exact (callsIn_wide (n := 4)).1 (half_Ask.inW 4 (by omega) k A0 c0 l0 A1 c1 l1 wg d r1 r2 w hr0 hc0 hr1 hc1 c2 cg.1 cg.2.1 cg.2.2.1 cg.2.2.2 hL hD cw.1 cw.2.1 cw.2.2 h)
 rw [if_neg c2] at h
 obtain ⟨am, e, g⟩ := Kd.at_int hr1 0 (by omega) (by omega)
 cases e
 have HR0 := a_ hr0
 have HC0 := a_ hc0
 have HR1 := a_ hr1
 have HC1 := a_ hc1
 have HA := a_ h
 have hB2 : Below w.heap.size w ((w.alloc (.cells #[.slice (some am) l1.length c1] 41)).alloc (.cells #[.int .i64 0, .int .i64 0] 49)) := ((Below.refl _ w).alloc (Nat.le_refl _) _).alloc (by simp) _
 have bx0 := ((Boxed.new w 41 (.slice (some am) l1.length c1)).alloc (.cells #[.int .i64 0, .int .i64 0] 49))
 have bx1 := Boxed2.new (w.alloc (.cells #[.slice (some am) l1.length c1] 41)) 49 (.int .i64 0) (.int .i64 0)
 simp only [World.size_alloc] at bx1
 have g1 := (hB2.cell (World.block_lt_of_cell? w _ g)).trans g
 rw [show am.add (Int.toNat 0) = am from by cases am; rfl] at g1
 have cb := bx0.cell
 have HB2 := a_ (And.intro hB2 (And.intro bx0 bx1))
 have hpos : ((0 : Int) < (l1.length : Int)) = True := eq_true (by omega)
 have hposn : (0 < l1.length) = True := eq_true (by omega)
 have hne : (rd l1 0 != 2) = true := bne_iff_ne.2 c2
 have hu := Tryz.underlying49
 obtain ⟨W2, hW2⟩ : ∃ W2, (w.alloc (.cells #[.slice (some am) l1.length c1] 41)).alloc (.cells #[.int .i64 0, .int .i64 0] 49) = W2 := ⟨_, rfl⟩
 rw [hW2] at g1 cb HB2
 have HG := a_ hG
 clear hr0 hc0 hr1 hc1 h g bx0 bx1 hB2 cg c2 hG
 go_enter Tryz.func50, Tryz.ntmps50
 go_wp2_with (first
  | (go_at_call 51; (refine (top_Ask.calls k _ _ l0 _ _ l1 r1 r2 _ (Kd.C_below HR0.out HB2.out.1) HC0.out (Kd.C_below HR1.out HB2.out.1) HC1.out HA.out).mono ?_); rintro e w9 ⟨rfl, hb9⟩; have hr9 : Boxed2 w9 (w.heap.size + 1) 49 (.int .i64 0) (.int .i64 0) := (hb9.block _ HB2.out.2.2.lt).trans HB2.out.2.2; have HE9 := a_ (And.intro hr9 (HB2.out.1.trans (hb9.mono HB2.out.1.size))); have f90 := hr9.f0; have f91 := hr9.f1; have c90 := hr9.c0; have c91 := hr9.c1; clear hr9 hb9))
 refine bodyPost_ret (results_cell_row rfl _ _ (w.heap.size + 1) 49 #[.int .i64 r1, .int .i64 r2] (0, 0) _ rfl (HE9.out.1.put _ _) Tryz.underlying49 rfl (by kernel_rfl)) rfl ⟨rfl, ?_⟩
 exact (HE9.out.2.setCell (p := ⟨w.heap.size + 1, 0, none⟩) (Nat.le_succ _) _).setCell (p := ⟨w.heap.size + 1, 1, none⟩) (Nat.le_succ _) _
end Go.Proofs.YtbnljapgnfmmoaaGreatDoor.G
end
section
-- Laid by the session's own driver gp.py over the kit's printer. Not trusted: Lean checks it.
namespace Go.Proofs.YtbnljapgnfmmoaaGreatDoor.G
open Go.RowKit Go.Proofs.YtbnljapgnfmmoaaGreatDoorW.PrintWords Go.Proofs.YtbnljapgnfmmoaaGreatDoorW.PrintLast Go.Proofs.YtbnljapgnfmmoaaGreatDoorW.PrintMore
set_option maxHeartbeats 8000000
set_option maxRecDepth 100000
attribute [local go_sem] max2_int min2_int max_two min_two max_three min_three max_four min_four   -- for this text's walks alone
set_option linter.unusedVariables false
set_option linter.unusedSimpArgs false

def next_Ask.f (k : Nat) (a0 : Int) (l1 : List (S66)) (l2 : List Int) : Option (Int × Int) := if a0 = 1 then ((half_Ask.f k l1 l2).bind fun bt159 => (some (bt159.1, bt159.2))) else ((top_Ask.f k l1 l2).bind fun bt161 => (some (bt161.1, bt161.2)))
theorem next_Ask.mono : ∀ a0 a1 a2 k, LeO (next_Ask.f k a0 a1 a2) (next_Ask.f (k + 1) a0 a1 a2) := by
 intro a0 a1 a2 k
 unfold next_Ask.f
 repeat' first
  | (with_reducible exact half_Ask.mono _ _ _)
  | (with_reducible exact top_Ask.mono _ _ _)
  | (with_reducible exact LeO.refl _)
  | (with_reducible exact LeO.none _)
  | (with_reducible refine LeO.ite ?_ ?_)
  | (with_reducible refine LeO.bind ?_ (fun _ => ?_))
  | exact half_Ask.mono _ _ _
  | exact top_Ask.mono _ _ _
  | exact LeO.none _
  | refine LeO.ite ?_ ?_
  | refine LeO.bind ?_ (fun _ => ?_)
theorem next_Ask.calls (k : Nat) (a0 : Int) (A1 : Option Addr) (c1 : Nat) (l1 : List (S66)) (A2 : Option Addr) (c2 : Nat) (l2 : List Int) (r1 : Int) (r2 : Int) (w : World) (hr1 : Kd.C k66 w A1 l1.length l1) (hc1 : l1.length ≤ c1) (hr2 : Kd.C (Kd.int .i64) w A2 l2.length l2) (hc2 : l2.length ≤ c2) (h : next_Ask.f k a0 l1 l2 = some (r1, r2)) (hG : GOK w) :
 Calls Tryz.prog 37 #[.int .i64 a0, .slice A1 l1.length c1, .slice A2 l2.length c2] w fun e w' => e = .returned (.agg #[.int .i64 r1, .int .i64 r2]) ∧ Below w.heap.size w w' := by
 have hu49 := Tryz.underlying49
 have HR1 := a_ hr1
 have HC1 := a_ hc1
 clear hr1 hc1
 have HR2 := a_ hr2
 have HC2 := a_ hc2
 clear hr2 hc2
 have HB := a_ (Below.refl w.heap.size w)
 have H := h; unfold next_Ask.f at H
 clear h
 by_cases c4 : a0 = 1
 case neg =>
  rw [if_neg c4] at H
  have c4b0 : (a0 == 1) = false := beq_eq_false_iff_ne.mpr c4
  have c4b1 : (a0 != 1) = true := bne_iff_ne.mpr c4
  replace H := Option.bind_eq_some_iff.mp H
  obtain ⟨⟨t161, t162⟩, A90, H⟩ := H
  try dsimp only at H
  have A9 := a_ A90
  clear A90
  simp only [Option.some.injEq, Prod.mk.injEq] at H
  obtain ⟨rfl, rfl⟩ := H
  go_enter Tryz.func37, Tryz.ntmps37
  go_wp2_with (first | ((with_reducible refine gate_dst (N := 6) rfl ?_); refine boxE_ 6 #[.int .i64 0, .int .i64 0] 49 ?_; intro gb158 hg w10 hbox hb; have BK158 := a_ (hbox); have GW158 := a_ ((gE_ hg : w.heap.size ≤ gb158)); have GE158 := a_ ((gE_ hg : w.heap.size ≤ gb158)); replace HB := a_ (below_step hB_ hb); clear hb hbox hg) | ((with_reducible refine gate_callee (f := 51) rfl ?_); refine goesL_ (some 14) rfl rfl Tryz.func51 (by kernel_rfl) rfl #[.slice A1 l1.length c1, .slice A2 l2.length c2] rfl hL_ ?_; (with_reducible refine (top_Ask.calls k _ _ l1 _ _ l2 t161 t162 _ ?side1 ?side2 ?side3 ?side4 A9.out).mono ?_); (case side1 => exact cB_ HR1.out); (case side2 => exact HC1.out); (case side3 => exact cB_ HR2.out); (case side4 => exact HC2.out); rintro e w11 ⟨rfl, hb⟩; refine ⟨_, rfl, ?_⟩; replace BK158 := a_ (bB_ BK158.out hb); replace HB := a_ (below_step hC_ hb); (try clear hb); (try clear hb2); (try clear hk); (try clear hi); obtain ⟨hcz12_0, hcz12_1, hfz12_0, hfz12_1⟩ := bx2_ BK158.out))
  refine bodyPost_ret (results_cell_row rfl _ _ gb158 49 #[.int .i64 t161, .int .i64 t162] (0, 0) _ rfl (bP_ (bP_ (hK_ BK158.out))) Tryz.underlying49 rfl (by kernel_rfl)) rfl ?_
  exact ⟨hV_, hC_⟩

 rw [if_pos c4] at H
 have c4b0 : (a0 == 1) = true := beq_iff_eq.mpr c4
 have c4b1 : (a0 != 1) = false := bne_eq_false_iff_eq.mpr c4
 clear c4
 replace H := Option.bind_eq_some_iff.mp H
 obtain ⟨⟨t159, t160⟩, A50, H⟩ := H
 try dsimp only at H
 have A5 := a_ A50
 clear A50
 simp only [Option.some.injEq, Prod.mk.injEq] at H
 obtain ⟨rfl, rfl⟩ := H
 go_enter Tryz.func37, Tryz.ntmps37
 go_wp2_with (first | ((with_reducible refine gate_dst (N := 6) rfl ?_); refine boxE_ 6 #[.int .i64 0, .int .i64 0] 49 ?_; intro gb158 hg w6 hbox hb; have BK158 := a_ (hbox); have GW158 := a_ ((gE_ hg : w.heap.size ≤ gb158)); have GE158 := a_ ((gE_ hg : w.heap.size ≤ gb158)); replace HB := a_ (below_step hB_ hb); clear hb hbox hg) | ((with_reducible refine gate_callee (f := 50) rfl ?_); refine goesL_ (some 11) rfl rfl Tryz.func50 (by kernel_rfl) rfl #[.slice A1 l1.length c1, .slice A2 l2.length c2] rfl hL_ ?_; (with_reducible refine (half_Ask.calls k _ _ l1 _ _ l2 t159 t160 _ ?side1 ?side2 ?side3 ?side4 A5.out (by first | exact hG | exact GOK.below hG hC_)).mono ?_); (case side1 => exact cB_ HR1.out); (case side2 => exact HC1.out); (case side3 => exact cB_ HR2.out); (case side4 => exact HC2.out); rintro e w7 ⟨rfl, hb⟩; refine ⟨_, rfl, ?_⟩; replace BK158 := a_ (bB_ BK158.out hb); replace HB := a_ (below_step hC_ hb); (try clear hb); (try clear hb2); (try clear hk); (try clear hi); obtain ⟨hcz8_0, hcz8_1, hfz8_0, hfz8_1⟩ := bx2_ BK158.out))
 refine bodyPost_ret (results_cell_row rfl _ _ gb158 49 #[.int .i64 t159, .int .i64 t160] (0, 0) _ rfl (bP_ (bP_ (hK_ BK158.out))) Tryz.underlying49 rfl (by kernel_rfl)) rfl ?_
 exact ⟨hV_, hC_⟩
end Go.Proofs.YtbnljapgnfmmoaaGreatDoor.G
end
section
-- Laid by the session's own driver gp.py over the kit's printer. Not trusted: Lean checks it.
namespace Go.Proofs.YtbnljapgnfmmoaaGreatDoor.G
open Go.RowKit Go.Proofs.YtbnljapgnfmmoaaGreatDoorW.PrintWords Go.Proofs.YtbnljapgnfmmoaaGreatDoorW.PrintLast Go.Proofs.YtbnljapgnfmmoaaGreatDoorW.PrintMore
set_option maxHeartbeats 8000000
set_option maxRecDepth 100000
attribute [local go_sem] max2_int min2_int max_two min_two max_three min_three max_four min_four   -- for this text's walks alone
set_option linter.unusedVariables false
set_option linter.unusedSimpArgs false

def session_May.l0 : Nat → List S66 → Int → List S53 → List Int → Int → Option Bool
 | 0, _, _, _, _, _ => none
 | k + 1, ns, wy, zs, ms, x => if x < (zs.length : Int) then (next_Ask.f k wy ns ms).bind fun b => if (!(b.1 == 0) || (!(b.2 == (rd_T53 zs x).f0))) = true then some false else (next_Mark.f (rd_T53 zs x).f1).bind fun t => if t = true then (if 0 ≤ (rd_T53 zs x).f0 ∧ (rd_T53 zs x).f0 < (ms.length : Int) then session_May.l0 k ns wy zs (ms.set (rd_T53 zs x).f0.toNat (rd_T53 zs x).f1) (wrap64 (x + 1)) else none) else some false else some true
def session_May.f (k : Nat) (l0_0 : List S66) (a0_1 : Int) (l0_2 : List S53) : Option Bool := (session_fresh.f k l0_0 a0_1).bind fun t => if t = true then session_May.l0 k l0_0 a0_1 l0_2 (List.replicate l0_0.length 0) 0 else some false
theorem session_May.mono_l : ∀ k, ∀ y0 y1 y2 y3 y4, LeO (session_May.l0 k y0 y1 y2 y3 y4) (session_May.l0 (k + 1) y0 y1 y2 y3 y4)
 | 0 => fun _ _ _ _ _ r h => by simp [session_May.l0] at h
 | k + 1 => by
  have ih0 := session_May.mono_l k
  intro y0 y1 y2 y3 y4
  unfold session_May.l0
  repeat' first
   | (with_reducible exact ih0 _ _ _ _ _)
   | (with_reducible exact next_Ask.mono _ _ _ _)
   | (with_reducible exact LeO.refl _)
   | (with_reducible exact LeO.none _)
   | (with_reducible refine LeO.ite ?_ ?_)
   | (with_reducible refine LeO.bind ?_ (fun _ => ?_))
   | exact next_Ask.mono _ _ _ _
   | exact LeO.none _
   | refine LeO.ite ?_ ?_
   | refine LeO.bind ?_ (fun _ => ?_)
theorem session_May.mono : ∀ a0 a1 a2 k, LeO (session_May.f k a0 a1 a2) (session_May.f (k + 1) a0 a1 a2) := by
 intro a0 a1 a2 k
 unfold session_May.f
 refine LeO.bind (session_fresh.mono _ _ _) (fun _ => ?_)
 exact LeO.ite (session_May.mono_l _ _ _ _ _ _) (LeO.refl _)
def session_May.T8 : Bool × List (List Nat × List Nat) := (true, [([], []), ([0], [0]), ([], []), ([2], [2]), ([], []), ([1, 3, 4], [1, 3, 4]), ([], []), ([5, 6], [5, 6]), ([7, 5], [7]), ([8], [8]), ([9, 8], [8, 9]), ([10, 8, 8], [8, 10]), ([11, 8], [8, 11]), ([8, 12], [8, 12])])
def session_May.B8 : List Nat := [0, 1, 0, 4, 0, 31, 0, 127, 255, 511, 1023, 2047, 4095, 8191]
theorem session_May.tab8 : rtab .any (opsOf Tryz.f21 8) = session_May.T8 := by kernel_rfl
theorem session_May.bits8 : waitsOk session_May.T8.2 session_May.B8 = true := by kernel_rfl
theorem wsuccM (x : Int) (h0 : 0 ≤ x) (h1 : x ≤ 9223372036854775806) : wrap64 (x + 1) = x + 1 := by unfold wrap64; omega
theorem eqAM (d : Nat) (w : World) (x0 y0 : Int) (x1 y1 : Int) :
 (Op.equalIn (d + 2) 49 (.agg #[.int .i64 x0, .int .i64 x1]) (.agg #[.int .i64 y0, .int .i64 y1])).run Tryz.prog w = .ok (x0 == y0 && (x1 == y1)) w := by
 refine eqA_of Tryz.underlying49 (by kernel_rfl) ?_
 refine eqf_cons (by rfl) (by go_simp; rfl) (by go_simp; rfl) (by go_simp) ?_
 exact eqf_last (by rfl) (by go_simp; rfl) (by go_simp; rfl) (by go_simp)
section
attribute [local go_sem high] eqAM
theorem session_May.calls (k : Nat) (A0_0 : Option Addr) (c0_0 : Nat) (l0_0 : List S66) (a0_1 : Int) (A0_2 : Option Addr) (c0_2 : Nat) (l0_2 : List S53) (r : Bool) (w : World) (hr0_0 : Kd.C k66 w A0_0 l0_0.length l0_0) (hc0_0 : l0_0.length ≤ c0_0) (hr0_2 : Kd.C k53 w A0_2 l0_2.length l0_2) (hc0_2 : l0_2.length ≤ c0_2) (h : session_May.f k l0_0 a0_1 l0_2 = some r) (hG : GOK w) :
 Calls Tryz.prog 21 #[.agg #[.slice A0_0 l0_0.length c0_0, .int .i64 a0_1, .slice A0_2 l0_2.length c0_2]] w fun e w' => e = .returned (.bool r) ∧ Below w.heap.size w w' := by
 have HR0 := a_ hr0_0
 have HC0 := a_ hc0_0
 have HR2 := a_ hr0_2
 have HG := a_ hG
 have HB := a_ (Below.refl w.heap.size w)
 have hu := Tryz.underlying25
 have hu1 := Tryz.underlying49
 have hu2 := Tryz.underlying53
 unfold session_May.f at h
 obtain ⟨t, A1, h⟩ := Option.bind_eq_some_iff.mp h
 have HF := a_ A1
 clear hr0_0 hc0_0 hr0_2 hc0_2 hG
 cases t with
 | false =>
  rw [if_neg Bool.false_ne_true] at h
  obtain rfl := Option.some.inj h
  clear h A1
  go_enter Tryz.func21, Tryz.ntmps21
  go_wp2_with (first
   | ((with_reducible refine gate_dst (N := 1) rfl ?_); refine boxE_ 1 #[.slice A0_0 l0_0.length c0_0, .int .i64 a0_1, .slice A0_2 l0_2.length c0_2] 25 ?_; intro gb1 hg w1 hbox hb; have GE1 := a_ (gE_ hg : w.heap.size ≤ gb1); have n0_ := a_ (below_step hB_ hb); clear HB; have HB := n0_; have BK1 := a_ hbox; clear n0_ hg hbox hb)
   | ((with_reducible refine gate_callee (f := 36) rfl ?_); refine goesL_ (some 7) rfl rfl Tryz.func36 (by kernel_rfl) rfl #[.pointer (some ⟨gb1, 0, none⟩)] rfl hL_ ?_; refine (session_fresh.calls k ⟨gb1, 0, none⟩ A0_0 c0_0 l0_0 a0_1 false _ (bc0_ BK1.out) (bc1_ BK1.out) (Kd.C_below HR0.out HB.out) HC0.out HF.out (GOK.below HG.out HB.out)).mono ?_; rintro e w2 ⟨rfl, hb⟩; refine ⟨_, rfl, ?_⟩; have n0_ := a_ (blk_below BK1.out hb); have n2_ := a_ (below_step HB.out hb); clear BK1 HB hb; have BK1 := n0_; have HB := n2_; clear n0_ n2_; obtain ⟨g0_, g1_, g2_, g3_, g4_, g5_⟩ := bx3_ BK1.out))
  go_ret
  exact ⟨rfl, HB.out⟩
 | true =>
  rw [if_pos rfl] at h
  have HN := a_ (session_fresh.true_spec A1)
  have H' := a_ h
  clear h A1
  go_enter Tryz.func21, Tryz.ntmps21
  go_wp2_with (first
   | ((with_reducible refine gate_dst (N := 1) rfl ?_); refine boxE_ 1 #[.slice A0_0 l0_0.length c0_0, .int .i64 a0_1, .slice A0_2 l0_2.length c0_2] 25 ?_; intro gb1 hg w1 hbox hb; have GE1 := a_ (gE_ hg : w.heap.size ≤ gb1); have n0_ := a_ (below_step hB_ hb); clear HB; have HB := n0_; have BK1 := a_ hbox; clear n0_ hg hbox hb)
   | ((with_reducible refine gate_callee (f := 36) rfl ?_); refine goesL_ (some 7) rfl rfl Tryz.func36 (by kernel_rfl) rfl #[.pointer (some ⟨gb1, 0, none⟩)] rfl hL_ ?_; refine (session_fresh.calls k ⟨gb1, 0, none⟩ A0_0 c0_0 l0_0 a0_1 true _ (bc0_ BK1.out) (bc1_ BK1.out) (Kd.C_below HR0.out HB.out) HC0.out HF.out (GOK.below HG.out HB.out)).mono ?_; rintro e w2 ⟨rfl, hb⟩; refine ⟨_, rfl, ?_⟩; have n0_ := a_ (blk_below BK1.out hb); have n2_ := a_ (below_step HB.out hb); clear BK1 HB hb; have BK1 := n0_; have HB := n2_; clear n0_ n2_; obtain ⟨g0_, g1_, g2_, g3_, g4_, g5_⟩ := bx3_ BK1.out)
   | ((with_reducible refine gate_dst (N := 12) rfl ?_); refine Kd.R_make (Kd.int .i64) _ 3 rfl (N := 12) rfl 41 _ _ rfl (l0_0.length : Int) rfl rfl Tryz.underlying41 (.int .i64 0) 8 info3 rfl (by decide) (by omega) 0 (ok := fun _ => True) (okp := fun _ => True) rfl (fun _ hk => hk) trivial (Int.natCast_nonneg _) (by have := HN.out; simp only [Int.toNat_natCast]; omega) (Below.refl _ _) (Nat.le_refl _) ?_; intro v12 w3 ho hb hg_ hnew_; rw [Int.toNat_natCast] at ho; have HM := a_ (Kd.R_lower ho HB.out.size); replace BK1 := a_ (blk_below BK1.out hb); replace HB := a_ (below_step HB.out hb); clear g0_ g1_ g2_ g3_ g4_ g5_ hg_ hnew_ hb ho; obtain ⟨g0_, g1_, g2_, g3_, g4_, g5_⟩ := bx3_ BK1.out))
  go_loopg [16] k (fun kq v w' => ∃ (ms : List Int) (x : Int), v = .int .i64 x ∧ Aside0 (session_May.l0 kq l0_0 a0_1 l0_2 ms x = some r) ∧ Aside0 (kq ≤ k) ∧ Aside0 (0 ≤ x) ∧ Aside0 (Kd.R (Kd.int .i64) 3 w' w.heap.size (fun _ => True) v12 ms) ∧ Aside0 (w'.heap[gb1]? = some (.cells #[.slice A0_0 l0_0.length c0_0, .int .i64 a0_1, .slice A0_2 l0_2.length c0_2] 25 (0, 0))) ∧ Aside0 (Below w.heap.size w w'))
  case atStart => exact ⟨_, 0, rfl, H', ⟨Nat.le_refl _⟩, ⟨by omega⟩, HM, BK1, HB⟩
  case round =>
   clear H' HB HM BK1 g0_ g1_ g2_ g3_ g4_ g5_
   obtain ⟨ms, x, rfl, HA, HK1, HX, HM, BK1, HB⟩ := hrel
   cases gk with
   | zero => exact absurd HA.out (by simp [session_May.l0])
   | succ k1 =>
    have H := HA.out
    clear HA
    simp only [session_May.l0] at H
    by_cases c : x < (l0_2.length : Int)
    case neg =>
     rw [if_neg c] at H
     have cb_ := decide_eq_false c
     obtain rfl := Option.some.inj H
     clear c H
     go_wp2
     go_ret
     exact ⟨rfl, HB.out⟩
    rw [if_pos c] at H
    have cb_ := decide_eq_true c
    obtain ⟨⟨b1, b2⟩, HA0, H⟩ := Option.bind_eq_some_iff.mp H
    have HA := a_ HA0
    clear HA0
    obtain ⟨ad, e0, hx0, hx1⟩ := at_T53 HR2.out x HX.out c
    cases e0
    replace hx0 := cl_ HB.out hx0
    replace hx1 := cl_ HB.out hx1
    have p_ := eq_true HX.out
    have q_ := eq_true c
    by_cases c2 : (!(b1 == 0) || (!(b2 == (rd_T53 l0_2 x).f0))) = true
    case pos =>
     rw [if_pos c2] at H
     obtain rfl := Option.some.inj H
     clear c H
     go_wp2_with (first
      | ((with_reducible refine gate_dst (N := 5) rfl ?_); refine boxE_ 5 #[.int .i64 0, .int .i64 0] 53 ?_; intro gb5 hg w5 hbox hb; have GE5 := a_ (gE_ hg : w.heap.size ≤ gb5); have NB15 := a_ (bL_ BK1.out hg : gb1 ≠ gb5); have n0_ := a_ (Kd.R_below (hR_ HM.out) hb); have n1_ := a_ (bB_ BK1.out hb); have n2_ := a_ (below_step hC_ hb); have BK5 := a_ hbox; clear HM BK1 HB hg hbox hb; have HM := n0_; have BK1 := n1_; have HB := n2_; clear n0_ n1_ n2_; obtain ⟨d0_, d1_, d2_, d3_⟩ := bx2_ BK5.out)
      | ((with_reducible refine gate_store (t := 53) (p := 5) rfl ?_); refine store_event (t := 53) (p := 5) (v := ?vo5) (w1 := ((w5.setCell ⟨gb5, 0, none⟩ (.int .i64 (rd_T53 l0_2 x).f0)).setCell ⟨gb5, 1, none⟩ (.int .i64 (rd_T53 l0_2 x).f1))) ?hg ?ho ?hn ?hr ?_; (case ho => rfl); (case hg => rfl); (case hn => rfl); (case hr => first | (go_simp; done) | (go_simp; rfl)); intro w6 hw; replace BK1 := a_ (show w6.heap[gb1]? = some (.cells #[.slice A0_0 l0_0.length c0_0, .int .i64 a0_1, .slice (some ad) l0_2.length c0_2] 25 (0, 0)) by rw [hw]; exact bF_ (bF_ BK1.out NB15.out) NB15.out); replace HM := a_ (show Kd.R (Kd.int .i64) 3 w6 w.heap.size (fun _ => True) v12 ms by rw [hw]; exact Kd.R_mono (rF_ (rF_ (Kd.R_types HM.out BK5.out (by decide)))) (fun _ _ => trivial)); replace BK5 := a_ (show w6.heap[gb5]? = some (.cells #[.int .i64 (rd_T53 l0_2 x).f0, .int .i64 (rd_T53 l0_2 x).f1] 53 (0, 0)) by rw [hw]; exact bP_ (bP_ (cs' := #[.int .i64 (rd_T53 l0_2 x).f0, .int .i64 0]) BK5.out)); replace HB := a_ (show Below w.heap.size w w6 by rw [hw]; exact below_set (below_set HB.out GE5.out) GE5.out); clear hw d0_ d1_ d2_ d3_; obtain ⟨d0_, d1_, d2_, d3_⟩ := bx2_ BK5.out)
      | ((with_reducible refine gate_dst (N := 6) rfl ?_); refine boxE_ 6 #[.int .i64 0, .int .i64 0] 49 ?_; intro gb6 hg w7 hbox hb; have GE6 := a_ (gE_ hg : w.heap.size ≤ gb6); have NB16 := a_ (bL_ BK1.out hg : gb1 ≠ gb6); have NB56 := a_ (bL_ BK5.out hg : gb5 ≠ gb6); have n0_ := a_ (Kd.R_below (hR_ HM.out) hb); have n1_ := a_ (bB_ BK1.out hb); have n2_ := a_ (below_step hC_ hb); have n3_ := a_ (bB_ BK5.out hb); have BK6 := a_ hbox; clear d0_ d1_ d2_ d3_ HM BK1 HB BK5 hg hbox hb; have HM := n0_; have BK1 := n1_; have HB := n2_; have BK5 := n3_; clear n0_ n1_ n2_ n3_; obtain ⟨d0_, d1_, d2_, d3_⟩ := bx2_ BK6.out)
      | ((with_reducible refine gate_store (t := 49) (p := 6) rfl ?_); refine store_event (t := 49) (p := 6) (v := ?vo6) (w1 := ((w7.setCell ⟨gb6, 0, none⟩ (.int .i64 0)).setCell ⟨gb6, 1, none⟩ (.int .i64 (rd_T53 l0_2 x).f0))) ?hg ?ho ?hn ?hr ?_; (case ho => rfl); (case hg => rfl); (case hn => rfl); (case hr => first | (go_simp; done) | (go_simp; rfl)); intro w8 hw; replace BK1 := a_ (show w8.heap[gb1]? = some (.cells #[.slice A0_0 l0_0.length c0_0, .int .i64 a0_1, .slice (some ad) l0_2.length c0_2] 25 (0, 0)) by rw [hw]; exact bF_ (bF_ BK1.out NB16.out) NB16.out); replace HM := a_ (show Kd.R (Kd.int .i64) 3 w8 w.heap.size (fun _ => True) v12 ms by rw [hw]; exact Kd.R_mono (rF_ (rF_ (Kd.R_types HM.out BK6.out (by decide)))) (fun _ _ => trivial)); replace BK6 := a_ (show w8.heap[gb6]? = some (.cells #[.int .i64 0, .int .i64 (rd_T53 l0_2 x).f0] 49 (0, 0)) by rw [hw]; exact bP_ (bP_ (cs' := #[.int .i64 0, .int .i64 0]) BK6.out)); replace HB := a_ (show Below w.heap.size w w8 by rw [hw]; exact below_set (below_set HB.out GE6.out) GE6.out); replace BK5 := a_ (show w8.heap[gb5]? = some (.cells #[.int .i64 (rd_T53 l0_2 x).f0, .int .i64 (rd_T53 l0_2 x).f1] 53 (0, 0)) by rw [hw]; exact bF_ (bF_ BK5.out NB56.out) NB56.out); clear hw d0_ d1_ d2_ d3_; obtain ⟨g0_, g1_, g2_, g3_, g4_, g5_⟩ := bx3_ BK1.out))
     clear g0_ g1_ g2_ g3_ g4_ g5_
     replace BK1 := a_ (blk_drew BK1.out)
     replace BK5 := a_ (blk_drew BK5.out)
     replace BK6 := a_ (blk_drew BK6.out)
     replace HM := a_ (Kd.R_drew HM.out)
     replace HB := a_ (below_drew1 HB.out)
     obtain ⟨Am, cm, em⟩ := Kd.R_slice HM.out
     subst em
     refine start_ (n := 14) (S := fun w' => w'.cell? ⟨gb1, 0, none⟩ = some (.slice A0_0 l0_0.length c0_0) ∧ w'.cell? ⟨gb1, 1, none⟩ = some (.int .i64 a0_1) ∧ w'.cell? ⟨gb6, 0, none⟩ = some (.int .i64 0) ∧ w'.cell? ⟨gb6, 1, none⟩ = some (.int .i64 (rd_T53 l0_2 x).f0) ∧ w'.cell? ⟨gb5, 1, none⟩ = some (.int .i64 (rd_T53 l0_2 x).f1)) (ds := []) #[false, false, false, false, false, false, false, false, false, false, false, false, false, false] (by kernel_rfl) rfl rfl ⟨bc0_ BK1.out, bc1_ BK1.out, bc0_ BK6.out, bc1_ BK6.out, bc1_ BK5.out⟩ (fun hHeld => ?_)
     refine with_tabW session_May.tab8 session_May.bits8 (fun HT_ HW_ => ?_)
     generalize w8.drew = w9 at BK1 BK5 BK6 HM HB hHeld ⊢
     refine pB_ 0 23 HT_.out ?_
     refine pB_ 2 25 HT_.out ?_
     refine pB_ 4 27 HT_.out ?_
     refine tB_ 1 24 HT_.out HW_.out hHeld ?_
     refine tB_ 3 26 HT_.out HW_.out hHeld ?_
     refine tB_ 6 29 HT_.out HW_.out hHeld ?_
     refine one_ (i := 5) (N := some 28) #[true, true, true, true, true, true, true, false, false, false, false, false, false, false] rfl rfl (one_of HT_.out (by kernel_rfl)) (by decide) (fun K hK => ?_)
     refine goes_ Tryz.func37 (by kernel_rfl) rfl #[.int .i64 a0_1, .slice A0_0 l0_0.length c0_0, .slice Am ms.length cm] (by rfl) rfl rfl hL_ ?_
     refine (next_Ask.calls k1 a0_1 A0_0 c0_0 l0_0 Am cm ms b1 b2 _ (Kd.C_below HR0.out HB.out) HC0.out (Kd.R_reads' HM.out).2.2 (Kd.R_reads' HM.out).2.1 HA.out (GOK.below HG.out HB.out)).mono ?_
     rintro e w10 ⟨rfl, hb⟩
     refine ⟨_, rfl, ?_⟩
     replace BK1 := a_ (blk_below BK1.out hb)
     replace BK5 := a_ (blk_below BK5.out hb)
     replace BK6 := a_ (blk_below BK6.out hb)
     replace HM := a_ (Kd.R_below HM.out hb)
     replace HB := a_ (below_step HB.out hb)
     clear hb
     refine hK.out _ _ ⟨bc0_ BK1.out, bc1_ BK1.out, bc0_ BK6.out, bc1_ BK6.out, bc1_ BK5.out⟩ (fun hHeld => ?_)
     clear hK K
     refine norm_ (a' := ?_) ?_ ?_
     rotate_left
     · show Act.put _ (some 28) _ = _
       simp only [Act.put, List.setIfInBounds_toArray, List.set_cons_zero, List.set_cons_succ, i64_w, i32_w]
       rfl
     refine pB_ 7 30 HT_.out ?_
     refine pB_ 8 31 HT_.out ?_
     refine pN_ 9 32 #[true, true, true, true, true, true, true, true, true, true, false, false, false, false] HT_.out ?_
     refine pN_ 10 33 #[true, true, true, true, true, true, true, true, true, true, true, false, false, false] HT_.out ?_
     refine pN_ 11 34 #[true, true, true, true, true, true, true, true, true, true, true, true, false, false] HT_.out ?_
     refine pN_ 12 35 #[true, true, true, true, true, true, true, true, true, true, true, true, true, false] HT_.out ?_
     refine pB_ 13 36 HT_.out ?_
     refine done_ (done_of HT_.out (by kernel_rfl)) ?_
     clear HT_ HW_ hHeld
     go_wp2
     go_ret
     exact ⟨rfl, HB.out⟩
    rw [if_neg c2] at H
    replace c2 : (!(b1 == 0) || (!(b2 == (rd_T53 l0_2 x).f0))) = false := by simpa using c2
    obtain ⟨t, HT0, H⟩ := Option.bind_eq_some_iff.mp H
    have HT2 := a_ HT0
    clear HT0
    cases t with
    | false =>
     rw [if_neg Bool.false_ne_true] at H
     obtain rfl := Option.some.inj H
     clear c H
     go_wp2_with (first
      | ((with_reducible refine gate_dst (N := 5) rfl ?_); refine boxE_ 5 #[.int .i64 0, .int .i64 0] 53 ?_; intro gb5 hg w5 hbox hb; have GE5 := a_ (gE_ hg : w.heap.size ≤ gb5); have NB15 := a_ (bL_ BK1.out hg : gb1 ≠ gb5); have n0_ := a_ (Kd.R_below (hR_ HM.out) hb); have n1_ := a_ (bB_ BK1.out hb); have n2_ := a_ (below_step hC_ hb); have BK5 := a_ hbox; clear HM BK1 HB hg hbox hb; have HM := n0_; have BK1 := n1_; have HB := n2_; clear n0_ n1_ n2_; obtain ⟨d0_, d1_, d2_, d3_⟩ := bx2_ BK5.out)
      | ((with_reducible refine gate_store (t := 53) (p := 5) rfl ?_); refine store_event (t := 53) (p := 5) (v := ?vo5) (w1 := ((w5.setCell ⟨gb5, 0, none⟩ (.int .i64 (rd_T53 l0_2 x).f0)).setCell ⟨gb5, 1, none⟩ (.int .i64 (rd_T53 l0_2 x).f1))) ?hg ?ho ?hn ?hr ?_; (case ho => rfl); (case hg => rfl); (case hn => rfl); (case hr => first | (go_simp; done) | (go_simp; rfl)); intro w6 hw; replace BK1 := a_ (show w6.heap[gb1]? = some (.cells #[.slice A0_0 l0_0.length c0_0, .int .i64 a0_1, .slice (some ad) l0_2.length c0_2] 25 (0, 0)) by rw [hw]; exact bF_ (bF_ BK1.out NB15.out) NB15.out); replace HM := a_ (show Kd.R (Kd.int .i64) 3 w6 w.heap.size (fun _ => True) v12 ms by rw [hw]; exact Kd.R_mono (rF_ (rF_ (Kd.R_types HM.out BK5.out (by decide)))) (fun _ _ => trivial)); replace BK5 := a_ (show w6.heap[gb5]? = some (.cells #[.int .i64 (rd_T53 l0_2 x).f0, .int .i64 (rd_T53 l0_2 x).f1] 53 (0, 0)) by rw [hw]; exact bP_ (bP_ (cs' := #[.int .i64 (rd_T53 l0_2 x).f0, .int .i64 0]) BK5.out)); replace HB := a_ (show Below w.heap.size w w6 by rw [hw]; exact below_set (below_set HB.out GE5.out) GE5.out); clear hw d0_ d1_ d2_ d3_; obtain ⟨d0_, d1_, d2_, d3_⟩ := bx2_ BK5.out)
      | ((with_reducible refine gate_dst (N := 6) rfl ?_); refine boxE_ 6 #[.int .i64 0, .int .i64 0] 49 ?_; intro gb6 hg w7 hbox hb; have GE6 := a_ (gE_ hg : w.heap.size ≤ gb6); have NB16 := a_ (bL_ BK1.out hg : gb1 ≠ gb6); have NB56 := a_ (bL_ BK5.out hg : gb5 ≠ gb6); have n0_ := a_ (Kd.R_below (hR_ HM.out) hb); have n1_ := a_ (bB_ BK1.out hb); have n2_ := a_ (below_step hC_ hb); have n3_ := a_ (bB_ BK5.out hb); have BK6 := a_ hbox; clear d0_ d1_ d2_ d3_ HM BK1 HB BK5 hg hbox hb; have HM := n0_; have BK1 := n1_; have HB := n2_; have BK5 := n3_; clear n0_ n1_ n2_ n3_; obtain ⟨d0_, d1_, d2_, d3_⟩ := bx2_ BK6.out)
      | ((with_reducible refine gate_store (t := 49) (p := 6) rfl ?_); refine store_event (t := 49) (p := 6) (v := ?vo6) (w1 := ((w7.setCell ⟨gb6, 0, none⟩ (.int .i64 0)).setCell ⟨gb6, 1, none⟩ (.int .i64 (rd_T53 l0_2 x).f0))) ?hg ?ho ?hn ?hr ?_; (case ho => rfl); (case hg => rfl); (case hn => rfl); (case hr => first | (go_simp; done) | (go_simp; rfl)); intro w8 hw; replace BK1 := a_ (show w8.heap[gb1]? = some (.cells #[.slice A0_0 l0_0.length c0_0, .int .i64 a0_1, .slice (some ad) l0_2.length c0_2] 25 (0, 0)) by rw [hw]; exact bF_ (bF_ BK1.out NB16.out) NB16.out); replace HM := a_ (show Kd.R (Kd.int .i64) 3 w8 w.heap.size (fun _ => True) v12 ms by rw [hw]; exact Kd.R_mono (rF_ (rF_ (Kd.R_types HM.out BK6.out (by decide)))) (fun _ _ => trivial)); replace BK6 := a_ (show w8.heap[gb6]? = some (.cells #[.int .i64 0, .int .i64 (rd_T53 l0_2 x).f0] 49 (0, 0)) by rw [hw]; exact bP_ (bP_ (cs' := #[.int .i64 0, .int .i64 0]) BK6.out)); replace HB := a_ (show Below w.heap.size w w8 by rw [hw]; exact below_set (below_set HB.out GE6.out) GE6.out); replace BK5 := a_ (show w8.heap[gb5]? = some (.cells #[.int .i64 (rd_T53 l0_2 x).f0, .int .i64 (rd_T53 l0_2 x).f1] 53 (0, 0)) by rw [hw]; exact bF_ (bF_ BK5.out NB56.out) NB56.out); clear hw d0_ d1_ d2_ d3_; obtain ⟨g0_, g1_, g2_, g3_, g4_, g5_⟩ := bx3_ BK1.out))
     clear g0_ g1_ g2_ g3_ g4_ g5_
     replace BK1 := a_ (blk_drew BK1.out)
     replace BK5 := a_ (blk_drew BK5.out)
     replace BK6 := a_ (blk_drew BK6.out)
     replace HM := a_ (Kd.R_drew HM.out)
     replace HB := a_ (below_drew1 HB.out)
     obtain ⟨Am, cm, em⟩ := Kd.R_slice HM.out
     subst em
     refine start_ (n := 14) (S := fun w' => w'.cell? ⟨gb1, 0, none⟩ = some (.slice A0_0 l0_0.length c0_0) ∧ w'.cell? ⟨gb1, 1, none⟩ = some (.int .i64 a0_1) ∧ w'.cell? ⟨gb6, 0, none⟩ = some (.int .i64 0) ∧ w'.cell? ⟨gb6, 1, none⟩ = some (.int .i64 (rd_T53 l0_2 x).f0) ∧ w'.cell? ⟨gb5, 1, none⟩ = some (.int .i64 (rd_T53 l0_2 x).f1)) (ds := []) #[false, false, false, false, false, false, false, false, false, false, false, false, false, false] (by kernel_rfl) rfl rfl ⟨bc0_ BK1.out, bc1_ BK1.out, bc0_ BK6.out, bc1_ BK6.out, bc1_ BK5.out⟩ (fun hHeld => ?_)
     refine with_tabW session_May.tab8 session_May.bits8 (fun HT_ HW_ => ?_)
     generalize w8.drew = w9 at BK1 BK5 BK6 HM HB hHeld ⊢
     refine pB_ 0 23 HT_.out ?_
     refine pB_ 2 25 HT_.out ?_
     refine pB_ 4 27 HT_.out ?_
     refine tB_ 1 24 HT_.out HW_.out hHeld ?_
     refine tB_ 3 26 HT_.out HW_.out hHeld ?_
     refine tB_ 6 29 HT_.out HW_.out hHeld ?_
     refine one_ (i := 5) (N := some 28) #[true, true, true, true, true, true, true, false, false, false, false, false, false, false] rfl rfl (one_of HT_.out (by kernel_rfl)) (by decide) (fun K hK => ?_)
     refine goes_ Tryz.func37 (by kernel_rfl) rfl #[.int .i64 a0_1, .slice A0_0 l0_0.length c0_0, .slice Am ms.length cm] (by rfl) rfl rfl hL_ ?_
     refine (next_Ask.calls k1 a0_1 A0_0 c0_0 l0_0 Am cm ms b1 b2 _ (Kd.C_below HR0.out HB.out) HC0.out (Kd.R_reads' HM.out).2.2 (Kd.R_reads' HM.out).2.1 HA.out (GOK.below HG.out HB.out)).mono ?_
     rintro e w10 ⟨rfl, hb⟩
     refine ⟨_, rfl, ?_⟩
     replace BK1 := a_ (blk_below BK1.out hb)
     replace BK5 := a_ (blk_below BK5.out hb)
     replace BK6 := a_ (blk_below BK6.out hb)
     replace HM := a_ (Kd.R_below HM.out hb)
     replace HB := a_ (below_step HB.out hb)
     clear hb
     refine hK.out _ _ ⟨bc0_ BK1.out, bc1_ BK1.out, bc0_ BK6.out, bc1_ BK6.out, bc1_ BK5.out⟩ (fun hHeld => ?_)
     clear hK K
     refine norm_ (a' := ?_) ?_ ?_
     rotate_left
     · show Act.put _ (some 28) _ = _
       simp only [Act.put, List.setIfInBounds_toArray, List.set_cons_zero, List.set_cons_succ, i64_w, i32_w]
       rfl
     refine pB_ 7 30 HT_.out ?_
     refine pB_ 8 31 HT_.out ?_
     refine pB_ 9 32 HT_.out ?_
     refine tB_ 10 33 HT_.out HW_.out hHeld ?_
     refine one_ (i := 11) (N := some 34) #[true, true, true, true, true, true, true, true, true, true, true, true, false, false] rfl rfl (one_of HT_.out (by kernel_rfl)) (by decide) (fun K hK => ?_)
     refine goes_ Tryz.func22 (by kernel_rfl) rfl #[.int .i64 (rd_T53 l0_2 x).f1] (by rfl) rfl rfl hL_ ?_
     refine (next_Mark.calls (rd_T53 l0_2 x).f1 false _ HT2.out).mono ?_
     rintro e w11 ⟨rfl, ⟨nd, rfl⟩⟩
     refine ⟨_, rfl, ?_⟩
     replace BK1 := a_ (blk_drewN BK1.out nd)
     replace BK5 := a_ (blk_drewN BK5.out nd)
     replace BK6 := a_ (blk_drewN BK6.out nd)
     replace HM := a_ (Kd.R_drewN HM.out nd)
     replace HB := a_ (below_dn HB.out nd)
     refine hK.out _ _ ⟨bc0_ BK1.out, bc1_ BK1.out, bc0_ BK6.out, bc1_ BK6.out, bc1_ BK5.out⟩ (fun hHeld => ?_)
     clear hK K
     refine norm_ (a' := ?_) ?_ ?_
     rotate_left
     · show Act.put _ (some 34) _ = _
       simp only [Act.put, List.setIfInBounds_toArray, List.set_cons_zero, List.set_cons_succ, i64_w, i32_w]
       rfl
     generalize w10.drewN nd = w12 at BK1 BK5 BK6 HM HB hHeld ⊢
     refine pB_ 12 35 HT_.out ?_
     refine pB_ 13 36 HT_.out ?_
     refine done_ (done_of HT_.out (by kernel_rfl)) ?_
     clear HT_ HW_ hHeld
     go_wp2
     go_ret
     exact ⟨rfl, HB.out⟩
    | true =>
     rw [if_pos rfl] at H
     obtain ⟨hX2, H⟩ := ifI_ H
     have HX2 := a_ hX2
     have H' := a_ H
     have HCX := a_ c
     clear c H hX2
     go_wp2_with (first
      | ((with_reducible refine gate_dst (N := 5) rfl ?_); refine boxE_ 5 #[.int .i64 0, .int .i64 0] 53 ?_; intro gb5 hg w5 hbox hb; have GE5 := a_ (gE_ hg : w.heap.size ≤ gb5); have NB15 := a_ (bL_ BK1.out hg : gb1 ≠ gb5); have n0_ := a_ (Kd.R_below (hR_ HM.out) hb); have n1_ := a_ (bB_ BK1.out hb); have n2_ := a_ (below_step hC_ hb); have BK5 := a_ hbox; clear HM BK1 HB hg hbox hb; have HM := n0_; have BK1 := n1_; have HB := n2_; clear n0_ n1_ n2_; obtain ⟨d0_, d1_, d2_, d3_⟩ := bx2_ BK5.out)
      | ((with_reducible refine gate_store (t := 53) (p := 5) rfl ?_); refine store_event (t := 53) (p := 5) (v := ?vo5) (w1 := ((w5.setCell ⟨gb5, 0, none⟩ (.int .i64 (rd_T53 l0_2 x).f0)).setCell ⟨gb5, 1, none⟩ (.int .i64 (rd_T53 l0_2 x).f1))) ?hg ?ho ?hn ?hr ?_; (case ho => rfl); (case hg => rfl); (case hn => rfl); (case hr => first | (go_simp; done) | (go_simp; rfl)); intro w6 hw; replace BK1 := a_ (show w6.heap[gb1]? = some (.cells #[.slice A0_0 l0_0.length c0_0, .int .i64 a0_1, .slice (some ad) l0_2.length c0_2] 25 (0, 0)) by rw [hw]; exact bF_ (bF_ BK1.out NB15.out) NB15.out); replace HM := a_ (show Kd.R (Kd.int .i64) 3 w6 w.heap.size (fun _ => True) v12 ms by rw [hw]; exact Kd.R_mono (rF_ (rF_ (Kd.R_types HM.out BK5.out (by decide)))) (fun _ _ => trivial)); replace BK5 := a_ (show w6.heap[gb5]? = some (.cells #[.int .i64 (rd_T53 l0_2 x).f0, .int .i64 (rd_T53 l0_2 x).f1] 53 (0, 0)) by rw [hw]; exact bP_ (bP_ (cs' := #[.int .i64 (rd_T53 l0_2 x).f0, .int .i64 0]) BK5.out)); replace HB := a_ (show Below w.heap.size w w6 by rw [hw]; exact below_set (below_set HB.out GE5.out) GE5.out); clear hw d0_ d1_ d2_ d3_; obtain ⟨d0_, d1_, d2_, d3_⟩ := bx2_ BK5.out)
      | ((with_reducible refine gate_dst (N := 6) rfl ?_); refine boxE_ 6 #[.int .i64 0, .int .i64 0] 49 ?_; intro gb6 hg w7 hbox hb; have GE6 := a_ (gE_ hg : w.heap.size ≤ gb6); have NB16 := a_ (bL_ BK1.out hg : gb1 ≠ gb6); have NB56 := a_ (bL_ BK5.out hg : gb5 ≠ gb6); have n0_ := a_ (Kd.R_below (hR_ HM.out) hb); have n1_ := a_ (bB_ BK1.out hb); have n2_ := a_ (below_step hC_ hb); have n3_ := a_ (bB_ BK5.out hb); have BK6 := a_ hbox; clear d0_ d1_ d2_ d3_ HM BK1 HB BK5 hg hbox hb; have HM := n0_; have BK1 := n1_; have HB := n2_; have BK5 := n3_; clear n0_ n1_ n2_ n3_; obtain ⟨d0_, d1_, d2_, d3_⟩ := bx2_ BK6.out)
      | ((with_reducible refine gate_store (t := 49) (p := 6) rfl ?_); refine store_event (t := 49) (p := 6) (v := ?vo6) (w1 := ((w7.setCell ⟨gb6, 0, none⟩ (.int .i64 0)).setCell ⟨gb6, 1, none⟩ (.int .i64 (rd_T53 l0_2 x).f0))) ?hg ?ho ?hn ?hr ?_; (case ho => rfl); (case hg => rfl); (case hn => rfl); (case hr => first | (go_simp; done) | (go_simp; rfl)); intro w8 hw; replace BK1 := a_ (show w8.heap[gb1]? = some (.cells #[.slice A0_0 l0_0.length c0_0, .int .i64 a0_1, .slice (some ad) l0_2.length c0_2] 25 (0, 0)) by rw [hw]; exact bF_ (bF_ BK1.out NB16.out) NB16.out); replace HM := a_ (show Kd.R (Kd.int .i64) 3 w8 w.heap.size (fun _ => True) v12 ms by rw [hw]; exact Kd.R_mono (rF_ (rF_ (Kd.R_types HM.out BK6.out (by decide)))) (fun _ _ => trivial)); replace BK6 := a_ (show w8.heap[gb6]? = some (.cells #[.int .i64 0, .int .i64 (rd_T53 l0_2 x).f0] 49 (0, 0)) by rw [hw]; exact bP_ (bP_ (cs' := #[.int .i64 0, .int .i64 0]) BK6.out)); replace HB := a_ (show Below w.heap.size w w8 by rw [hw]; exact below_set (below_set HB.out GE6.out) GE6.out); replace BK5 := a_ (show w8.heap[gb5]? = some (.cells #[.int .i64 (rd_T53 l0_2 x).f0, .int .i64 (rd_T53 l0_2 x).f1] 53 (0, 0)) by rw [hw]; exact bF_ (bF_ BK5.out NB56.out) NB56.out); clear hw d0_ d1_ d2_ d3_; obtain ⟨g0_, g1_, g2_, g3_, g4_, g5_⟩ := bx3_ BK1.out))
     clear g0_ g1_ g2_ g3_ g4_ g5_
     replace BK1 := a_ (blk_drew BK1.out)
     replace BK5 := a_ (blk_drew BK5.out)
     replace BK6 := a_ (blk_drew BK6.out)
     replace HM := a_ (Kd.R_drew HM.out)
     replace HB := a_ (below_drew1 HB.out)
     obtain ⟨Am, cm, em⟩ := Kd.R_slice HM.out
     subst em
     refine start_ (n := 14) (S := fun w' => w'.cell? ⟨gb1, 0, none⟩ = some (.slice A0_0 l0_0.length c0_0) ∧ w'.cell? ⟨gb1, 1, none⟩ = some (.int .i64 a0_1) ∧ w'.cell? ⟨gb6, 0, none⟩ = some (.int .i64 0) ∧ w'.cell? ⟨gb6, 1, none⟩ = some (.int .i64 (rd_T53 l0_2 x).f0) ∧ w'.cell? ⟨gb5, 1, none⟩ = some (.int .i64 (rd_T53 l0_2 x).f1)) (ds := []) #[false, false, false, false, false, false, false, false, false, false, false, false, false, false] (by kernel_rfl) rfl rfl ⟨bc0_ BK1.out, bc1_ BK1.out, bc0_ BK6.out, bc1_ BK6.out, bc1_ BK5.out⟩ (fun hHeld => ?_)
     refine with_tabW session_May.tab8 session_May.bits8 (fun HT_ HW_ => ?_)
     generalize w8.drew = w9 at BK1 BK5 BK6 HM HB hHeld ⊢
     refine pB_ 0 23 HT_.out ?_
     refine pB_ 2 25 HT_.out ?_
     refine pB_ 4 27 HT_.out ?_
     refine tB_ 1 24 HT_.out HW_.out hHeld ?_
     refine tB_ 3 26 HT_.out HW_.out hHeld ?_
     refine tB_ 6 29 HT_.out HW_.out hHeld ?_
     refine one_ (i := 5) (N := some 28) #[true, true, true, true, true, true, true, false, false, false, false, false, false, false] rfl rfl (one_of HT_.out (by kernel_rfl)) (by decide) (fun K hK => ?_)
     refine goes_ Tryz.func37 (by kernel_rfl) rfl #[.int .i64 a0_1, .slice A0_0 l0_0.length c0_0, .slice Am ms.length cm] (by rfl) rfl rfl hL_ ?_
     refine (next_Ask.calls k1 a0_1 A0_0 c0_0 l0_0 Am cm ms b1 b2 _ (Kd.C_below HR0.out HB.out) HC0.out (Kd.R_reads' HM.out).2.2 (Kd.R_reads' HM.out).2.1 HA.out (GOK.below HG.out HB.out)).mono ?_
     rintro e w10 ⟨rfl, hb⟩
     refine ⟨_, rfl, ?_⟩
     replace BK1 := a_ (blk_below BK1.out hb)
     replace BK5 := a_ (blk_below BK5.out hb)
     replace BK6 := a_ (blk_below BK6.out hb)
     replace HM := a_ (Kd.R_below HM.out hb)
     replace HB := a_ (below_step HB.out hb)
     clear hb
     refine hK.out _ _ ⟨bc0_ BK1.out, bc1_ BK1.out, bc0_ BK6.out, bc1_ BK6.out, bc1_ BK5.out⟩ (fun hHeld => ?_)
     clear hK K
     refine norm_ (a' := ?_) ?_ ?_
     rotate_left
     · show Act.put _ (some 28) _ = _
       simp only [Act.put, List.setIfInBounds_toArray, List.set_cons_zero, List.set_cons_succ, i64_w, i32_w]
       rfl
     refine pB_ 7 30 HT_.out ?_
     refine pB_ 8 31 HT_.out ?_
     refine pB_ 9 32 HT_.out ?_
     refine tB_ 10 33 HT_.out HW_.out hHeld ?_
     refine one_ (i := 11) (N := some 34) #[true, true, true, true, true, true, true, true, true, true, true, true, false, false] rfl rfl (one_of HT_.out (by kernel_rfl)) (by decide) (fun K hK => ?_)
     refine goes_ Tryz.func22 (by kernel_rfl) rfl #[.int .i64 (rd_T53 l0_2 x).f1] (by rfl) rfl rfl hL_ ?_
     refine (next_Mark.calls (rd_T53 l0_2 x).f1 true _ HT2.out).mono ?_
     rintro e w11 ⟨rfl, ⟨nd, rfl⟩⟩
     refine ⟨_, rfl, ?_⟩
     replace BK1 := a_ (blk_drewN BK1.out nd)
     replace BK5 := a_ (blk_drewN BK5.out nd)
     replace BK6 := a_ (blk_drewN BK6.out nd)
     replace HM := a_ (Kd.R_drewN HM.out nd)
     replace HB := a_ (below_dn HB.out nd)
     refine hK.out _ _ ⟨bc0_ BK1.out, bc1_ BK1.out, bc0_ BK6.out, bc1_ BK6.out, bc1_ BK5.out⟩ (fun hHeld => ?_)
     clear hK K
     refine norm_ (a' := ?_) ?_ ?_
     rotate_left
     · show Act.put _ (some 34) _ = _
       simp only [Act.put, List.setIfInBounds_toArray, List.set_cons_zero, List.set_cons_succ, i64_w, i32_w]
       rfl
     generalize w10.drewN nd = w12 at BK1 BK5 BK6 HM HB hHeld ⊢
     refine pB_ 12 35 HT_.out ?_
     refine pB_ 13 36 HT_.out ?_
     refine done_ (done_of HT_.out (by kernel_rfl)) ?_
     clear HT_ HW_ hHeld
     obtain ⟨gm, cm', eo, hbg, hgl, cl, hgm⟩ := Kd.R_form HM.out (by have := HX2.out; omega)
     injection eo with ea_ en_ ec_
     subst ea_
     clear en_ ec_
     obtain ⟨hx34, hf34⟩ := Kd.R_celln 0 HM.out (rd_T53 l0_2 x).f0 HX2.out.1 HX2.out.2
     have HP := a_ (Kd.R_putg HM.out (rd_T53 l0_2 x).f0 (rd_T53 l0_2 x).f1).1
     have hne : gb1 ≠ gm := blk_ne BK1.out hgm (by decide)
     have HE := a_ (And.intro hbg hne)
     obtain ⟨d0_, d1_, d2_, d3_⟩ := bx2_ BK5.out
     have p34_ := eq_true HX2.out.1
     have q34_ := eq_true HX2.out.2
     clear hbg hgl hgm hne
     go_wp2
     go_roundg k1
     case measure => have := HK1.out; omega
     case rel => exact ⟨_, _, rfl, H', ⟨by have := HK1.out; omega⟩, ⟨by have := HX.out; rw [wsuccM x HX.out (by have := Kd.C_max HR2.out; have := HCX.out; omega)]; omega⟩, ⟨HP.out⟩, ⟨bF_ BK1.out HE.out.2⟩, ⟨below_set HB.out HE.out.1⟩⟩
end

end Go.Proofs.YtbnljapgnfmmoaaGreatDoor.G
end
section
-- Laid by the session's own driver gp.py over the kit's printer. Not trusted: Lean checks it.
namespace Go.Proofs.YtbnljapgnfmmoaaGreatDoor.G
open Go.RowKit Go.Proofs.YtbnljapgnfmmoaaGreatDoorW.PrintWords Go.Proofs.YtbnljapgnfmmoaaGreatDoorW.PrintLast Go.Proofs.YtbnljapgnfmmoaaGreatDoorW.PrintMore
set_option maxHeartbeats 8000000
set_option maxRecDepth 100000
attribute [local go_sem] max2_int min2_int max_two min_two max_three min_three max_four min_four   -- for this text's walks alone
set_option linter.unusedVariables false
set_option linter.unusedSimpArgs false

mutual
def next_Marks.j0 : Nat → Bool → List (S66) → Int → List (S53) → Option (List Int × Int)
 | 0, _, _, _, _ => none
 | k + 1, x16, x164000, x164001, x164002 => if x16 = true then (some (([] : List Int), 2000)) else (if 0 ≤ (x164000.length : Int) then (if ((x164000.length : Int) : Int).toNat ≤ 35184372088832 then (next_Marks.l0 k (List.replicate ((x164000.length : Int) : Int).toNat 0) x164002 (x164002.length : Int) 0) else (none)) else (none))
def next_Marks.l0 : Nat → List Int → List (S53) → Int → Int → Option (List Int × Int)
 | 0, _, _, _, _ => none
 | k + 1, x4, x22, x23, x24 => if x24 < x23 then (if 0 ≤ x24 then (if x24 < (x22.length : Int) then (if ((rd_T53 x22 x24).f0) < 0 then (some (([] : List Int), 2000)) else (if ((rd_T53 x22 x24).f0) ≥ (x4.length : Int) then (some (([] : List Int), 2000)) else ((next_Mark.f ((rd_T53 x22 x24).f1)).bind fun t170 => (if t170 = true then (if 0 ≤ ((rd_T53 x22 x24).f0) then (if ((rd_T53 x22 x24).f0) < (x4.length : Int) then (next_Marks.l0 k (x4.set (((rd_T53 x22 x24).f0) : Int).toNat ((rd_T53 x22 x24).f1)) x22 x23 (wrap64 (x24 + 1))) else (none)) else (none)) else (some (([] : List Int), 2000)))))) else (none)) else (none)) else (some (x4, 0))
end
def next_Marks.f (k : Nat) (l0_0 : List (S66)) (a0_1 : Int) (l0_2 : List (S53)) : Option (List Int × Int) := (trail_May.f k l0_0).bind fun t164 => (if t164 = true then (next_Marks.j0 k (decide ((l0_2.length : Int) > 512)) l0_0 a0_1 l0_2) else (next_Marks.j0 k true l0_0 a0_1 l0_2))
theorem next_Marks.mono_l : ∀ k, (∀ y0 y1 y2 y3, LeO (next_Marks.j0 k y0 y1 y2 y3) (next_Marks.j0 (k + 1) y0 y1 y2 y3)) ∧ (∀ y0 y1 y2 y3, LeO (next_Marks.l0 k y0 y1 y2 y3) (next_Marks.l0 (k + 1) y0 y1 y2 y3))
 | 0 => ⟨fun _ _ _ _ r h => by simp [next_Marks.j0] at h, fun _ _ _ _ r h => by simp [next_Marks.l0] at h⟩
 | k + 1 => by
  obtain ⟨ih0, ih1⟩ := next_Marks.mono_l k
  refine ⟨?_, ?_⟩
  · intro y0 y1 y2 y3
    unfold next_Marks.j0
    repeat' first
    | (with_reducible exact ih0 _ _ _ _)
    | (with_reducible exact ih1 _ _ _ _)
    | (with_reducible exact trail_May.mono _ _)
    | (with_reducible exact LeO.refl _)
    | (with_reducible exact LeO.none _)
    | (with_reducible refine LeO.ite ?_ ?_)
    | (with_reducible refine LeO.bind ?_ (fun _ => ?_))
    | exact ih0 _ _ _ _
    | exact ih1 _ _ _ _
    | exact trail_May.mono _ _
    | exact LeO.none _
    | refine LeO.ite ?_ ?_
    | refine LeO.bind ?_ (fun _ => ?_)
  · intro y0 y1 y2 y3
    unfold next_Marks.l0
    repeat' first
    | (with_reducible exact ih0 _ _ _ _)
    | (with_reducible exact ih1 _ _ _ _)
    | (with_reducible exact trail_May.mono _ _)
    | (with_reducible exact LeO.refl _)
    | (with_reducible exact LeO.none _)
    | (with_reducible refine LeO.ite ?_ ?_)
    | (with_reducible refine LeO.bind ?_ (fun _ => ?_))
    | exact ih0 _ _ _ _
    | exact ih1 _ _ _ _
    | exact trail_May.mono _ _
    | exact LeO.none _
    | refine LeO.ite ?_ ?_
    | refine LeO.bind ?_ (fun _ => ?_)
theorem next_Marks.mono : ∀ a0 a1 a2 k, LeO (next_Marks.f k a0 a1 a2) (next_Marks.f (k + 1) a0 a1 a2) := by
 intro a0 a1 a2 k
 obtain ⟨ih0, ih1⟩ := next_Marks.mono_l k
 unfold next_Marks.f
 repeat' first
  | (with_reducible exact ih0 _ _ _ _)
  | (with_reducible exact ih1 _ _ _ _)
  | (with_reducible exact trail_May.mono _ _)
  | (with_reducible exact LeO.refl _)
  | (with_reducible exact LeO.none _)
  | (with_reducible refine LeO.ite ?_ ?_)
  | (with_reducible refine LeO.bind ?_ (fun _ => ?_))
  | exact ih0 _ _ _ _
  | exact ih1 _ _ _ _
  | exact trail_May.mono _ _
  | exact LeO.none _
  | refine LeO.ite ?_ ?_
  | refine LeO.bind ?_ (fun _ => ?_)
theorem next_Marks.calls (k : Nat) (A0_0 : Option Addr) (c0_0 : Nat) (l0_0 : List (S66)) (a0_1 : Int) (A0_2 : Option Addr) (c0_2 : Nat) (l0_2 : List (S53)) (r1 : List Int) (r2 : Int) (w : World) (hr0_0 : Kd.C k66 w A0_0 l0_0.length l0_0) (hc0_0 : l0_0.length ≤ c0_0) (hr0_2 : Kd.C k53 w A0_2 l0_2.length l0_2) (hc0_2 : l0_2.length ≤ c0_2) (h : next_Marks.f k l0_0 a0_1 l0_2 = some (r1, r2)) (hG : GOK w) :
 Calls Tryz.prog 38 #[.agg #[.slice A0_0 l0_0.length c0_0, .int .i64 a0_1, .slice A0_2 l0_2.length c0_2]] w fun e w' => ∃ v0_ : Value, e = .returned (.tuple #[v0_, .int .i64 r2]) ∧ Kd.R (Kd.int .i64) 3 w' w.heap.size (fun _ => True) v0_ r1 ∧ Below w.heap.size w w' := by
 have hu25 := Tryz.underlying25
 have hu53 := Tryz.underlying53
 have HR0_0 := a_ hr0_0
 have HC0_0 := a_ hc0_0
 clear hr0_0 hc0_0
 have HR0_2 := a_ hr0_2
 have HC0_2 := a_ hc0_2
 clear hr0_2 hc0_2
 have HB := a_ (Below.refl w.heap.size w)
 have H := h; unfold next_Marks.f at H
 clear h
 have HC2 := a_ H
 clear H
 go_enter Tryz.func38, Tryz.ntmps38
 go_upto_region 1 with (first | ((with_reducible refine gate_dst (N := 1) rfl ?_); (try (refine gate_guard (by rfl) ?_; dsimp only)); refine boxE_ 1 #[.slice A0_0 l0_0.length c0_0, .int .i64 a0_1, .slice A0_2 l0_2.length c0_2] 25 ?_; intro gb163 hg w3 hbox hb; have BK163 := a_ (hbox); have GW163 := a_ ((gE_ hg : w.heap.size ≤ gb163)); have GE163 := a_ ((gE_ hg : w.heap.size ≤ gb163)); replace HB := a_ (below_step hB_ hb); clear hb hbox hg))
 (try simp only [Act.put, List.setIfInBounds_toArray, List.set_cons_zero, List.set_cons_succ])
 go_cut [16] (fun v16 wc => ∃ (kq : Nat) (x16_1 : Bool), v16 = .bool x16_1 ∧ Aside0 (next_Marks.j0 kq x16_1 l0_0 a0_1 l0_2 = some (r1, r2)) ∧ Aside0 (kq ≤ k) ∧ Aside0 (wc.heap[gb163]? = some (.cells #[(.slice A0_0 l0_0.length c0_0), .int .i64 a0_1, (.slice A0_2 l0_2.length c0_2)] 25 (0, 0))) ∧ Aside0 (Below w.heap.size w wc))
 case first =>
  have H := HC2.out
  clear HC2
  replace H := Option.bind_eq_some_iff.mp H
  obtain ⟨t164, A40, H⟩ := H
  try dsimp only at H
  have A4 := a_ A40
  clear A40
  by_cases c5 : t164 = true
  case neg =>
   replace c5 := Bool.eq_false_iff.mpr c5
   subst c5
   rw [if_neg (show ¬ (false = true) by decide)] at H
   have H' := a_ H
   clear H
   obtain ⟨hcz9_0, hcz9_1, hcz9_2, hfz9_0, hfz9_1, hfz9_2⟩ := bx3_ BK163.out
   go_wp2_with (first | ((with_reducible refine gate_callee (f := 49) rfl ?_); refine goesL_ (some 9) rfl rfl Tryz.func49 (by kernel_rfl) rfl #[.slice A0_0 l0_0.length c0_0] rfl hL_ ?_; (with_reducible refine (trail_May.calls k _ _ l0_0 false _ ?side1 ?side2 A4.out (by first | exact hG | exact GOK.below hG hC_)).mono ?_); (case side1 => exact cB_ HR0_0.out); (case side2 => exact HC0_0.out); rintro e w10 ⟨rfl, hb⟩; refine ⟨_, rfl, ?_⟩; replace BK163 := a_ (bB_ BK163.out hb); replace HB := a_ (below_step hC_ hb); (try clear hb); (try clear hb2); (try clear hk); (try clear hi)))
   go_meet
   case rel => exact ⟨_, (true), hW_, H', ⟨by first | omega | exact Nat.le_refl _⟩, ⟨(hK_ BK163.out)⟩, ⟨hC_⟩⟩
  subst c5
  rw [if_pos rfl] at H
  have H' := a_ H
  clear H
  obtain ⟨hcz6_0, hcz6_1, hcz6_2, hfz6_0, hfz6_1, hfz6_2⟩ := bx3_ BK163.out
  go_wp2_with (first | ((with_reducible refine gate_callee (f := 49) rfl ?_); refine goesL_ (some 9) rfl rfl Tryz.func49 (by kernel_rfl) rfl #[.slice A0_0 l0_0.length c0_0] rfl hL_ ?_; (with_reducible refine (trail_May.calls k _ _ l0_0 true _ ?side1 ?side2 A4.out (by first | exact hG | exact GOK.below hG hC_)).mono ?_); (case side1 => exact cB_ HR0_0.out); (case side2 => exact HC0_0.out); rintro e w7 ⟨rfl, hb⟩; refine ⟨_, rfl, ?_⟩; replace BK163 := a_ (bB_ BK163.out hb); replace HB := a_ (below_step hC_ hb); (try clear hb); (try clear hb2); (try clear hk); (try clear hi); obtain ⟨hcz8_0, hcz8_1, hcz8_2, hfz8_0, hfz8_1, hfz8_2⟩ := bx3_ BK163.out))
  go_meet
  case rel => exact ⟨_, (decide ((l0_2.length : Int) > 512)), hW_, H', ⟨by first | omega | exact Nat.le_refl _⟩, ⟨(hK_ BK163.out)⟩, ⟨hC_⟩⟩
 case rest =>
  clear HC2
  try clear p2
  try clear c3
  try clear c4
  try clear c5
  try clear hcz6_0
  try clear hcz6_1
  try clear hcz6_2
  try clear hcz8_0
  try clear hcz8_1
  try clear hcz8_2
  try clear hcz9_0
  try clear hcz9_1
  try clear hcz9_2
  try clear hfz6_0
  try clear hfz6_1
  try clear hfz6_2
  try clear hfz8_0
  try clear hfz8_1
  try clear hfz8_2
  try clear hfz9_0
  try clear hfz9_1
  try clear hfz9_2
  obtain ⟨kq, x16_1, rfl, HA, HJ1, BK163, HB⟩ := hcut
  cases kq with
  | zero => exact absurd HA.out (by simp [next_Marks.j0])
  | succ kj1 =>
   have H := HA.out
   clear HA
   simp only [next_Marks.j0] at H
   by_cases c11 : x16_1 = true
   case pos =>
    subst c11
    rw [if_pos rfl] at H
    simp only [Option.some.injEq, Prod.mk.injEq] at H
    obtain ⟨rfl, rfl⟩ := H
    go_wp2
    go_ret2
    exact ⟨_, hV_, by first | exact Kd.R_nil _ _ _ _ _ | exact Kd.N_nil _ _ _ _ _ | exact Kd.V_nil _ _ _ _ _ | exact Kd.Q_nil _ _ _ _ _ | exact Kd.S_nil _ _ _ _ _, hC_⟩
   replace c11 := Bool.eq_false_iff.mpr c11
   subst c11
   rw [if_neg (show ¬ (false = true) by decide)] at H
   replace H := ifI_ H; obtain ⟨c12, H⟩ := H
   have c12b0 := eq_true c12
   have c12b1 : decide (0 ≤ (l0_0.length : Int)) = true := decide_eq_true c12
   clear c12
   replace H := ifI_ H; obtain ⟨c13, H⟩ := H
   have c13b0 := eq_true c13
   have c13b1 : decide (((l0_0.length : Int) : Int).toNat ≤ 35184372088832) = true := decide_eq_true c13
   clear c13
   obtain ⟨y165, hy165⟩ : ∃ y_ : List Int, y_ = (List.replicate ((l0_0.length : Int) : Int).toNat 0) := ⟨_, rfl⟩
   replace H : (next_Marks.l0 kj1 y165 l0_2 (l0_2.length : Int) 0) = some (r1, r2) := by first | (rw [hy165]; with_reducible exact H) | (have H2_ := (Option.bind_some _ _).symm.trans H; rw [hy165]; with_reducible exact H2_) | (have H2_ := (Option.bind_some _ _).symm.trans H; with_reducible exact H2_) | with_reducible exact H | (rw [hy165]; exact H) | exact H
   have Ny165 := a_ hy165
   clear hy165
   have H' := a_ H
   clear H
   obtain ⟨hcz14_0, hcz14_1, hcz14_2, hfz14_0, hfz14_1, hfz14_2⟩ := bx3_ BK163.out
   go_wp2_with (first | ((with_reducible refine gate_dst (N := 20) rfl ?_); (try (refine gate_guard (by rfl) ?_; dsimp only)); refine Kd.R_make (Kd.int .i64) _ 3 rfl (N := 20) rfl 41 _ _ rfl (l0_0.length : Int) rfl rfl Tryz.underlying41 (.int .i64 0) 8 info3 rfl (by decide) (by omega) 0 (ok := fun _ => True) (okp := fun _ => True) rfl (fun _ hk => hk) trivial (of_decide_eq_true hA_) (Nat.le_trans (Nat.mul_le_mul_right _ (of_decide_eq_true hA_ : (l0_0.length : Int).toNat ≤ 35184372088832)) (by omega)) (Below.refl _ _) (Nat.le_refl _) ?_; intro v166 w15 ho16 hb hg_ hnew_; clear hg_ hnew_; (first | rw [← Ny165.out] at ho16 | (simp only [Int.reduceToNat] at ho16; rw [← Ny165.out] at ho16)); have HO167 := a_ (Kd.R_lower ho16 (below_size hC_)); replace BK163 := a_ (bB_ BK163.out hb); replace HB := a_ (below_step hC_ hb); clear hb ho16; obtain ⟨hcz17_0, hcz17_1, hcz17_2, hfz17_0, hfz17_1, hfz17_2⟩ := bx3_ BK163.out))
   go_loopg [24] kj1 (fun kq v24 w' => ∃ (x4_2 : List Int) (x24_2 : Int), v24 = .int .i64 x24_2 ∧ Aside0 (next_Marks.l0 kq x4_2 l0_2 (l0_2.length : Int) x24_2 = some (r1, r2)) ∧ Aside0 (kq ≤ kj1) ∧ Aside0 (Kd.R (Kd.int .i64) 3 w' w.heap.size (fun _ => True) v166 x4_2) ∧ Aside0 (w'.heap[gb163]? = some (.cells #[(.slice A0_0 l0_0.length c0_0), .int .i64 a0_1, (.slice A0_2 l0_2.length c0_2)] 25 (0, 0))) ∧ Aside0 (Below w.heap.size w w'))
   case atStart => exact ⟨(y165), (0), hW_, H', ⟨Nat.le_refl _⟩, ⟨hR_ HO167.out⟩, ⟨(hK_ BK163.out)⟩, ⟨hC_⟩⟩
   case round =>
    clear H'
    try clear c1
    try clear p2
    try clear c3
    try clear c4
    try clear c5
    try clear c11
    try clear c12
    try clear c12b0
    try clear c12b1
    try clear c13
    try clear c13b0
    try clear c13b1
    try clear hcz14_0
    try clear hcz14_1
    try clear hcz14_2
    try clear hcz17_0
    try clear hcz17_1
    try clear hcz17_2
    try clear hcz6_0
    try clear hcz6_1
    try clear hcz6_2
    try clear hcz8_0
    try clear hcz8_1
    try clear hcz8_2
    try clear hcz9_0
    try clear hcz9_1
    try clear hcz9_2
    try clear hfz14_0
    try clear hfz14_1
    try clear hfz14_2
    try clear hfz17_0
    try clear hfz17_1
    try clear hfz17_2
    try clear hfz6_0
    try clear hfz6_1
    try clear hfz6_2
    try clear hfz8_0
    try clear hfz8_1
    try clear hfz8_2
    try clear hfz9_0
    try clear hfz9_1
    try clear hfz9_2
    try clear p2
    obtain ⟨x4_2, x24_2, rfl, HA, HK2, HO_4, BK163, HB⟩ := hrel
    cases gk with
    | zero => exact absurd HA.out (by simp [next_Marks.l0])
    | succ k2 =>
     have H := HA.out
     clear HA
     simp only [next_Marks.l0] at H
     by_cases c18 : x24_2 < (l0_2.length : Int)
     case neg =>
      rw [if_neg c18] at H
      have c18b0 : decide (x24_2 < (l0_2.length : Int)) = false := decide_eq_false c18
      clear c18
      simp only [Option.some.injEq, Prod.mk.injEq] at H
      obtain ⟨rfl, rfl⟩ := H
      go_wp2
      go_ret2
      exact ⟨_, hV_, hR_ HO_4.out, hC_⟩
     rw [if_pos c18] at H
     have c18b0 : decide (x24_2 < (l0_2.length : Int)) = true := decide_eq_true c18
     clear c18
     replace H := ifI_ H; obtain ⟨c19, H⟩ := H
     have c19b0 : decide (0 ≤ x24_2) = true := decide_eq_true c19
     clear c19
     replace H := ifI_ H; obtain ⟨c20, H⟩ := H
     have c20b0 : decide (x24_2 < (l0_2.length : Int)) = true := decide_eq_true c20
     clear c20
     by_cases c21 : ((rd_T53 l0_2 x24_2).f0) < 0
     case pos =>
      rw [if_pos c21] at H
      have c21b0 : decide (((rd_T53 l0_2 x24_2).f0) < 0) = true := decide_eq_true c21
      clear c21
      simp only [Option.some.injEq, Prod.mk.injEq] at H
      obtain ⟨rfl, rfl⟩ := H
      have p168 : 0 ≤ (x24_2 : Int) := of_decide_eq_true hA_
      have q168 : x24_2 < (l0_2.length : Int) := of_decide_eq_true hA_
      obtain ⟨ad168, e168, hx168_0, hx168_1⟩ := at_T53 HR0_2.out x24_2 p168 q168
      cases e168
      replace hx168_0 := cl_ HB.out hx168_0
      replace hx168_1 := cl_ HB.out hx168_1
      replace p168 := eq_true p168
      replace q168 := eq_true q168
      go_wp2_with (first | ((with_reducible refine gate_dst (N := 6) rfl ?_); (try (refine gate_guard (by rfl) ?_; dsimp only)); refine boxE_ 6 #[.int .i64 0, .int .i64 0] 53 ?_; intro gb169 hg w22 hbox hb; replace HO_4 := a_ (Kd.R_below (hR_ HO_4.out) hb); have BK169 := a_ (hbox); have GW169 := a_ ((gE_ hg : w.heap.size ≤ gb169)); have GE169 := a_ ((gE_ hg : w.heap.size ≤ gb169)); replace HB := a_ (below_step hC_ hb); have NB163_169 := a_ ((bL_ BK163.out hg : gb163 ≠ gb169)); have NB169_163 := a_ ((bG_ BK163.out hg : gb169 ≠ gb163)); replace BK163 := a_ (bB_ BK163.out hb); clear hb hbox hg; have hnb23 := NB169_163.out; have hnc23 := NB163_169.out; obtain ⟨hcz24_0, hcz24_1, hfz24_0, hfz24_1⟩ := bx2_ BK169.out))
      go_ret2
      exact ⟨_, hV_, by first | exact Kd.R_nil _ _ _ _ _ | exact Kd.N_nil _ _ _ _ _ | exact Kd.V_nil _ _ _ _ _ | exact Kd.Q_nil _ _ _ _ _ | exact Kd.S_nil _ _ _ _ _, hC_⟩
     rw [if_neg c21] at H
     have c21b0 : decide (((rd_T53 l0_2 x24_2).f0) < 0) = false := decide_eq_false c21
     clear c21
     by_cases c25 : ((rd_T53 l0_2 x24_2).f0) ≥ (x4_2.length : Int)
     case pos =>
      rw [if_pos c25] at H
      have c25b0 : decide ((x4_2.length : Int) ≤ ((rd_T53 l0_2 x24_2).f0)) = true := decide_eq_true c25
      clear c25
      simp only [Option.some.injEq, Prod.mk.injEq] at H
      obtain ⟨rfl, rfl⟩ := H
      have p168 : 0 ≤ (x24_2 : Int) := of_decide_eq_true hA_
      have q168 : x24_2 < (l0_2.length : Int) := of_decide_eq_true hA_
      obtain ⟨ad168, e168, hx168_0, hx168_1⟩ := at_T53 HR0_2.out x24_2 p168 q168
      cases e168
      replace hx168_0 := cl_ HB.out hx168_0
      replace hx168_1 := cl_ HB.out hx168_1
      replace p168 := eq_true p168
      replace q168 := eq_true q168
      go_wp2_with (first | ((with_reducible refine gate_dst (N := 6) rfl ?_); (try (refine gate_guard (by rfl) ?_; dsimp only)); refine boxE_ 6 #[.int .i64 0, .int .i64 0] 53 ?_; intro gb169 hg w26 hbox hb; replace HO_4 := a_ (Kd.R_below (hR_ HO_4.out) hb); have BK169 := a_ (hbox); have GW169 := a_ ((gE_ hg : w.heap.size ≤ gb169)); have GE169 := a_ ((gE_ hg : w.heap.size ≤ gb169)); replace HB := a_ (below_step hC_ hb); have NB163_169 := a_ ((bL_ BK163.out hg : gb163 ≠ gb169)); have NB169_163 := a_ ((bG_ BK163.out hg : gb169 ≠ gb163)); replace BK163 := a_ (bB_ BK163.out hb); clear hb hbox hg; have hnb27 := NB169_163.out; have hnc27 := NB163_169.out; obtain ⟨hcz28_0, hcz28_1, hfz28_0, hfz28_1⟩ := bx2_ BK169.out; obtain ⟨Ao29, co29, eo29⟩ := Kd.R_slice HO_4.out; subst eo29))
      go_ret2
      exact ⟨_, hV_, by first | exact Kd.R_nil _ _ _ _ _ | exact Kd.N_nil _ _ _ _ _ | exact Kd.V_nil _ _ _ _ _ | exact Kd.Q_nil _ _ _ _ _ | exact Kd.S_nil _ _ _ _ _, hC_⟩
     rw [if_neg c25] at H
     have c25b0 : decide ((x4_2.length : Int) ≤ ((rd_T53 l0_2 x24_2).f0)) = false := decide_eq_false c25
     clear c25
     replace H := Option.bind_eq_some_iff.mp H
     obtain ⟨t170, A300, H⟩ := H
     try dsimp only at H
     have A30 := a_ A300
     clear A300
     by_cases c31 : t170 = true
     case neg =>
      replace c31 := Bool.eq_false_iff.mpr c31
      subst c31
      rw [if_neg (show ¬ (false = true) by decide)] at H
      simp only [Option.some.injEq, Prod.mk.injEq] at H
      obtain ⟨rfl, rfl⟩ := H
      have p168 : 0 ≤ (x24_2 : Int) := of_decide_eq_true hA_
      have q168 : x24_2 < (l0_2.length : Int) := of_decide_eq_true hA_
      obtain ⟨ad168, e168, hx168_0, hx168_1⟩ := at_T53 HR0_2.out x24_2 p168 q168
      cases e168
      replace hx168_0 := cl_ HB.out hx168_0
      replace hx168_1 := cl_ HB.out hx168_1
      replace p168 := eq_true p168
      replace q168 := eq_true q168
      go_wp2_with (first | ((with_reducible refine gate_dst (N := 6) rfl ?_); (try (refine gate_guard (by rfl) ?_; dsimp only)); refine boxE_ 6 #[.int .i64 0, .int .i64 0] 53 ?_; intro gb169 hg w43 hbox hb; replace HO_4 := a_ (Kd.R_below (hR_ HO_4.out) hb); have BK169 := a_ (hbox); have GW169 := a_ ((gE_ hg : w.heap.size ≤ gb169)); have GE169 := a_ ((gE_ hg : w.heap.size ≤ gb169)); replace HB := a_ (below_step hC_ hb); have NB163_169 := a_ ((bL_ BK163.out hg : gb163 ≠ gb169)); have NB169_163 := a_ ((bG_ BK163.out hg : gb169 ≠ gb163)); replace BK163 := a_ (bB_ BK163.out hb); clear hb hbox hg; have hnb44 := NB169_163.out; have hnc44 := NB163_169.out; obtain ⟨hcz45_0, hcz45_1, hfz45_0, hfz45_1⟩ := bx2_ BK169.out; obtain ⟨Ao46, co46, eo46⟩ := Kd.R_slice HO_4.out; subst eo46) | (go_at_call 22; (with_reducible refine (next_Mark.calls ((rd_T53 l0_2 x24_2).f1) false _ A30.out).mono ?_); rintro e w' ⟨rfl, ⟨nd, rfl⟩⟩))
      go_ret2
      exact ⟨_, hV_, by first | exact Kd.R_nil _ _ _ _ _ | exact Kd.N_nil _ _ _ _ _ | exact Kd.V_nil _ _ _ _ _ | exact Kd.Q_nil _ _ _ _ _ | exact Kd.S_nil _ _ _ _ _, hC_⟩
     subst c31
     rw [if_pos rfl] at H
     replace H := ifI_ H; obtain ⟨c32, H⟩ := H
     have c32b0 : decide (0 ≤ ((rd_T53 l0_2 x24_2).f0)) = true := decide_eq_true c32
     clear c32
     replace H := ifI_ H; obtain ⟨c33, H⟩ := H
     have c33b0 : decide (((rd_T53 l0_2 x24_2).f0) < (x4_2.length : Int)) = true := decide_eq_true c33
     clear c33
     obtain ⟨y171, hy171⟩ : ∃ y_ : List Int, y_ = (x4_2.set (((rd_T53 l0_2 x24_2).f0) : Int).toNat ((rd_T53 l0_2 x24_2).f1)) := ⟨_, rfl⟩
     replace H : (next_Marks.l0 k2 y171 l0_2 (l0_2.length : Int) (wrap64 (x24_2 + 1))) = some (r1, r2) := by first | (rw [hy171]; with_reducible exact H) | (have H2_ := (Option.bind_some _ _).symm.trans H; rw [hy171]; with_reducible exact H2_) | (have H2_ := (Option.bind_some _ _).symm.trans H; with_reducible exact H2_) | with_reducible exact H | (rw [hy171]; exact H) | exact H
     have Ny171 := a_ hy171
     clear hy171
     have H' := a_ H
     clear H
     have p168 : 0 ≤ (x24_2 : Int) := of_decide_eq_true hA_
     have q168 : x24_2 < (l0_2.length : Int) := of_decide_eq_true hA_
     obtain ⟨ad168, e168, hx168_0, hx168_1⟩ := at_T53 HR0_2.out x24_2 p168 q168
     cases e168
     replace hx168_0 := cl_ HB.out hx168_0
     replace hx168_1 := cl_ HB.out hx168_1
     replace p168 := eq_true p168
     replace q168 := eq_true q168
     go_wp2_with (first | ((with_reducible refine gate_dst (N := 6) rfl ?_); (try (refine gate_guard (by rfl) ?_; dsimp only)); refine boxE_ 6 #[.int .i64 0, .int .i64 0] 53 ?_; intro gb169 hg w35 hbox hb; replace HO_4 := a_ (Kd.R_below (hR_ HO_4.out) hb); have BK169 := a_ (hbox); have GW169 := a_ ((gE_ hg : w.heap.size ≤ gb169)); have GE169 := a_ ((gE_ hg : w.heap.size ≤ gb169)); replace HB := a_ (below_step hC_ hb); have NB163_169 := a_ ((bL_ BK163.out hg : gb163 ≠ gb169)); have NB169_163 := a_ ((bG_ BK163.out hg : gb169 ≠ gb163)); replace BK163 := a_ (bB_ BK163.out hb); clear hb hbox hg; have hnb36 := NB169_163.out; have hnc36 := NB163_169.out; obtain ⟨hcz37_0, hcz37_1, hfz37_0, hfz37_1⟩ := bx2_ BK169.out) | ((with_reducible refine gate_store (t := 53) (p := 6) rfl ?_); refine store_event (t := 53) (p := 6) (v := ?vo_w38) (w1 := ((w35.setCell ⟨gb169, 0, none⟩ (.int .i64 ((rd_T53 l0_2 x24_2).f0))).setCell ⟨gb169, 1, none⟩ (.int .i64 ((rd_T53 l0_2 x24_2).f1)))) ?hg ?ho ?hn ?hr ?_; (case ho => rfl); (case hg => rfl); (case hn => rfl); (case hr => first | (go_simp; done) | (go_simp; rfl)); intro w38 hw; replace HO_4 : Aside0 (Kd.R (Kd.int .i64) 3 w38 w.heap.size (fun _ => True) v166 x4_2) := ⟨(by rw [hw]; exact (by (with_reducible repeat (first | apply Kd.R_alloc | apply Kd.R_drewN | apply Kd.R_drew)); exact Kd.R_mono (rF_ (rF_ (Kd.R_types HO_4.out BK169.out (by decide)))) (fun _ hk => trivial)))⟩; replace BK163 : Aside0 (w38.heap[gb163]? = some (.cells #[.slice A0_0 l0_0.length c0_0, .int .i64 a0_1, .slice (some ad168) l0_2.length c0_2] 25 (0, 0))) := ⟨(by rw [hw]; exact (bF_ (bF_ (hK_ BK163.out) NB163_169.out) NB163_169.out))⟩; replace BK169 : Aside0 (w38.heap[gb169]? = some (.cells #[.int .i64 ((rd_T53 l0_2 x24_2).f0), .int .i64 ((rd_T53 l0_2 x24_2).f1)] 53 (0, 0))) := ⟨(by rw [hw]; exact (bP_ (bP_ (hK_ BK169.out))))⟩; replace HB : Aside0 (Below w.heap.size w w38) := ⟨(by rw [hw]; exact hC_)⟩; clear hw; obtain ⟨hcz39_0, hcz39_1, hfz39_0, hfz39_1⟩ := bx2_ BK169.out; obtain ⟨Ao40, co40, eo40⟩ := Kd.R_slice HO_4.out; subst eo40) | (go_at_call 22; (with_reducible refine (next_Mark.calls ((rd_T53 l0_2 x24_2).f1) true _ A30.out).mono ?_); rintro e w' ⟨rfl, ⟨nd, rfl⟩⟩; (try (rw [drewN_self w38]; generalize hq_ : World.drewN w38 _ = w38; replace HO_4 : Aside0 (Kd.R (Kd.int .i64) 3 w38 w.heap.size (fun _ => True) (.slice Ao40 x4_2.length co40) x4_2) := ⟨by rw [← hq_]; exact (hR_ HO_4.out)⟩; replace BK163 : Aside0 (w38.heap[gb163]? = some (.cells #[.slice A0_0 l0_0.length c0_0, .int .i64 a0_1, .slice (some ad168) l0_2.length c0_2] 25 (0, 0))) := ⟨by rw [← hq_]; exact (hK_ BK163.out)⟩; replace BK169 : Aside0 (w38.heap[gb169]? = some (.cells #[.int .i64 ((rd_T53 l0_2 x24_2).f0), .int .i64 ((rd_T53 l0_2 x24_2).f1)] 53 (0, 0))) := ⟨by rw [← hq_]; exact (hK_ BK169.out)⟩; replace HB : Aside0 (Below w.heap.size w w38) := ⟨by rw [← hq_]; exact hC_⟩; clear hq_; (try have hcu0_0 := bc0_ BK163.out); (try have hfu0_0 := blk_frozen BK163.out 0); (try have hcu0_1 := bc1_ BK163.out); (try have hfu0_1 := blk_frozen BK163.out 1); (try have hcu0_2 := bc2_ BK163.out); (try have hfu0_2 := blk_frozen BK163.out 2); (try have hcu1_0 := bc0_ BK169.out); (try have hfu1_0 := blk_frozen BK169.out 0); (try have hcu1_1 := bc1_ BK169.out); (try have hfu1_1 := blk_frozen BK169.out 1))); have p34 : 0 ≤ (((rd_T53 l0_2 x24_2).f0) : Int) := of_decide_eq_true hA_; have q34 : (((rd_T53 l0_2 x24_2).f0) : Int) < ((x4_2.length : Int) : Int) := of_decide_eq_true hA_; obtain ⟨go34, co34, eo34, gb34, gl34, cl34, HG34⟩ := Kd.R_form HO_4.out (by omega); (first | cases eo34 | (injection eo34 with ea_ en_ ec_; (first | subst ea_ | (injection ea_ with ea_; subst ea_)); subst ec_; clear en_)); have GB34 := a_ gb34; have GG34 := a_ HG34; clear gb34 gl34 HG34; obtain ⟨hx34_0, hf34_0⟩ := Kd.R_celln 0 HO_4.out (((rd_T53 l0_2 x24_2).f0) : Int) p34 q34; replace p34 := eq_true p34; replace q34 := eq_true q34; obtain ⟨hy41_, hz41_⟩ := Kd.R_celln 0 HO_4.out (((rd_T53 l0_2 x24_2).f0) : Int) (of_decide_eq_true hA_) (of_decide_eq_true hA_); have HP41 := Kd.R_putg HO_4.out (((rd_T53 l0_2 x24_2).f0) : Int) ((rd_T53 l0_2 x24_2).f1)) | ((with_reducible refine gate_store (t := 3) (p := 49) rfl ?_); refine store_event (t := 3) (p := 49) (v := ?vo_w42) (w1 := (w38.setCell ⟨go34, (((rd_T53 l0_2 x24_2).f0) : Int).toNat, none⟩ (.int .i64 ((rd_T53 l0_2 x24_2).f1)))) ?hg ?ho ?hn ?hr ?_; (case ho => rfl); (case hg => rfl); (case hn => rfl); (case hr => first | (go_simp; done) | (go_simp; rfl)); intro w42 hw; have hg : w38.grownBy w42 (some go34) := (by rw [hw]; exact HP41.2); have hp_ : Kd.R (Kd.int .i64) 3 w42 w.heap.size (fun _ => True) (.slice (some ⟨go34, 0, none⟩) x4_2.length co40) y171 := (by rw [hw, Ny171.out]; exact HP41.1); clear HP41; replace BK163 := a_ (blk_grown (hK_ BK163.out) hg (Kd.R_ne HO_4.out BK163.out (by decide))); replace BK169 := a_ (blk_grown (hK_ BK169.out) hg (Kd.R_ne HO_4.out BK169.out (by decide))); replace HO_4 := a_ (hp_); replace HB := a_ ((by rw [hw]; exact below_set (HB.out) GB34.out : Below w.heap.size w w42)); clear hg hw hp_))
     go_roundg k2
     case measure => have := HJ1.out; have := HK2.out; omega
     case rel => exact ⟨(y171), (wrap64 (x24_2 + 1)), hW_, H', ⟨by have := HJ1.out; have := HK2.out; omega⟩, ⟨hR_ HO_4.out⟩, ⟨(hK_ BK163.out)⟩, ⟨hC_⟩⟩
end Go.Proofs.YtbnljapgnfmmoaaGreatDoor.G
end
