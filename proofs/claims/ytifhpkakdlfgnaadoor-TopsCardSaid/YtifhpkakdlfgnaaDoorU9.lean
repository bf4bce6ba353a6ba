/- Parts of this proof, one behind the other: G20, TopVals, G1, G33, TopWake, TopRef. -/
import Derived.Test.YtifhpkakdlfgnaaDoorU2
import Derived.Test.YtifhpkakdlfgnaaDoorG0
import Derived.Test.YtifhpkakdlfgnaaDoorU8
section
namespace Go.Proofs.YtifhpkakdlfgnaaDoor.G
open Go.RowKit Go.Proofs.YtifhpkakdlfgnaaDoorW.PrintWords Go.Proofs.YtifhpkakdlfgnaaDoorW.PrintLast Go.Proofs.YtifhpkakdlfgnaaDoorW.PrintMore
set_option maxHeartbeats 8000000
set_option maxRecDepth 100000
attribute [local go_sem] max2_int min2_int max_two min_two max_three min_three max_four min_four   -- for this text's walks alone
set_option linter.unusedVariables false
set_option linter.unusedSimpArgs false

def top_Ask.l0 : Nat → List (S40) → List Int → Int → Int → Bool → Option (Int × Int)
 | 0, _, _, _, _, _ => none
 | k + 1, x0, x1, x5, x6, x7 => if x7 = true then ((top_first.f x0 x1 x6 2).bind fun bt160 => (top_Ask.l0 k x0 x1 x6 bt160.1 bt160.2)) else ((top_first.f x0 x1 x5 0).bind fun bt162 => (if bt162.2 = true then (some (0, bt162.1)) else ((top_Bug.f x0 x1 x5).bind fun bt164 => (some (bt164.1, bt164.2)))))
def top_Ask.f (k : Nat) (l0 : List (S40)) (l1 : List Int) : Option (Int × Int) := if 0 < (l1.length : Int) then (if (rd l1 0) = 0 then (some (0, 0)) else (if (rd l1 0) = 1 then (some (2, 0)) else (if (rd l1 0) = 3 then (some (3, 0)) else ((top_first.f l0 l1 0 2).bind fun bt158 => (top_Ask.l0 k l0 l1 0 bt158.1 bt158.2))))) else (none)
theorem top_Ask.calls (k : Nat) (A0 : Option Addr) (c0 : Nat) (l0 : List (S40)) (A1 : Option Addr) (c1 : Nat) (l1 : List Int) (r1 : Int) (r2 : Int) (w : World) (hr0 : Kd.C k40 w A0 l0.length l0) (hc0 : l0.length ≤ c0) (hr1 : Kd.C (Kd.int .i64) w A1 l1.length l1) (hc1 : l1.length ≤ c1) (h : top_Ask.f k l0 l1 = some (r1, r2)) :
 Calls Tryd.prog 14 #[.slice A0 l0.length c0, .slice A1 l1.length c1] w fun e w' => e = .returned (.agg #[.int .i64 r1, .int .i64 r2]) ∧ Below w.heap.size w w' := by
 have hu27 := Tryd.underlying27
 have HR0 := a_ hr0
 have HC0 := a_ hc0
 clear hr0 hc0
 have HR1 := a_ hr1
 have HC1 := a_ hc1
 clear hr1 hc1
 have HB := a_ (Below.refl w.heap.size w)
 have H := h; unfold top_Ask.f at H
 clear h
 replace H := ifI_ H; obtain ⟨c3, H⟩ := H
 have c3b0 : decide (0 < (l1.length : Int)) = true := decide_eq_true c3
 have c3b1 : decide (0 < l1.length) = true := decide_eq_true (by omega)
 clear c3
 by_cases c4 : (rd l1 0) = 0
 case pos =>
  rw [if_pos c4] at H
  have c4b0 : ((rd l1 0) == 0) = true := beq_iff_eq.mpr c4
  have c4b1 : ((rd l1 0) != 0) = false := bne_eq_false_iff_eq.mpr c4
  clear c4
  simp only [Option.some.injEq, Prod.mk.injEq] at H
  obtain ⟨rfl, rfl⟩ := H
  go_enter Tryd.func14, Tryd.ntmps14
  go_wp2_with (first | ((with_reducible refine gate_dst (N := 4) rfl ?_); refine boxE_ 4 #[.int .i64 0, .int .i64 0] 27 ?_; intro g0 hg w5 hbox hb; have B0 := a_ (hbox); have E0 := a_ ((gE_ hg : w.heap.size ≤ g0)); replace HB := a_ (below_step hB_ hb); clear hb hbox hg; have p157 : 0 ≤ (0 : Int) := (by omega); have q157 : 0 < (l1.length : Int) := of_decide_eq_true hA_; obtain ⟨d0, e157, h0⟩ := Kd.at_int HR1.out 0 p157 q157; cases e157; have qi157 : (0 < l1.length) = True := eq_true (by omega); (try rw [show ((0 : Int)).toNat = 0 from rfl] at h0); (try rw [Addr.add_zero'] at h0); replace h0 := cl_ HB.out h0; replace p157 := eq_true p157; replace q157 := eq_true q157; obtain ⟨z0, z1, f0, f1⟩ := bx2_ B0.out))
  refine bodyPost_ret (results_cell_row rfl _ _ g0 27 #[.int .i64 0, .int .i64 0] (0, 0) _ rfl (bP_ (bP_ (hK_ B0.out))) Tryd.underlying27 rfl (by kernel_rfl)) rfl ?_
  exact ⟨hV_, hC_⟩
 rw [if_neg c4] at H
 have c4b0 : ((rd l1 0) == 0) = false := beq_eq_false_iff_ne.mpr c4
 have c4b1 : ((rd l1 0) != 0) = true := bne_iff_ne.mpr c4
 by_cases c7 : (rd l1 0) = 1
 case pos =>
  rw [if_pos c7] at H
  have c7b0 : ((rd l1 0) == 1) = true := beq_iff_eq.mpr c7
  have c7b1 : ((rd l1 0) != 1) = false := bne_eq_false_iff_eq.mpr c7
  clear c7
  simp only [Option.some.injEq, Prod.mk.injEq] at H
  obtain ⟨rfl, rfl⟩ := H
  go_enter Tryd.func14, Tryd.ntmps14
  go_wp2_with (first | ((with_reducible refine gate_dst (N := 4) rfl ?_); refine boxE_ 4 #[.int .i64 0, .int .i64 0] 27 ?_; intro g0 hg w8 hbox hb; have B0 := a_ (hbox); have E0 := a_ ((gE_ hg : w.heap.size ≤ g0)); replace HB := a_ (below_step hB_ hb); clear hb hbox hg; have p157 : 0 ≤ (0 : Int) := (by omega); have q157 : 0 < (l1.length : Int) := of_decide_eq_true hA_; obtain ⟨d0, e157, h0⟩ := Kd.at_int HR1.out 0 p157 q157; cases e157; have qi157 : (0 < l1.length) = True := eq_true (by omega); (try rw [show ((0 : Int)).toNat = 0 from rfl] at h0); (try rw [Addr.add_zero'] at h0); replace h0 := cl_ HB.out h0; replace p157 := eq_true p157; replace q157 := eq_true q157; obtain ⟨z2, z3, f2, f3⟩ := bx2_ B0.out))
  refine bodyPost_ret (results_cell_row rfl _ _ g0 27 #[.int .i64 2, .int .i64 0] (0, 0) _ rfl (bP_ (bP_ (hK_ B0.out))) Tryd.underlying27 rfl (by kernel_rfl)) rfl ?_
  exact ⟨hV_, hC_⟩
 rw [if_neg c7] at H
 have c7b0 : ((rd l1 0) == 1) = false := beq_eq_false_iff_ne.mpr c7
 have c7b1 : ((rd l1 0) != 1) = true := bne_iff_ne.mpr c7
 by_cases c10 : (rd l1 0) = 3
 case pos =>
  rw [if_pos c10] at H
  have c10b0 : ((rd l1 0) == 3) = true := beq_iff_eq.mpr c10
  have c10b1 : ((rd l1 0) != 3) = false := bne_eq_false_iff_eq.mpr c10
  clear c10
  simp only [Option.some.injEq, Prod.mk.injEq] at H
  obtain ⟨rfl, rfl⟩ := H
  go_enter Tryd.func14, Tryd.ntmps14
  go_wp2_with (first | ((with_reducible refine gate_dst (N := 4) rfl ?_); refine boxE_ 4 #[.int .i64 0, .int .i64 0] 27 ?_; intro g0 hg w0 hbox hb; have B0 := a_ (hbox); have E0 := a_ ((gE_ hg : w.heap.size ≤ g0)); replace HB := a_ (below_step hB_ hb); clear hb hbox hg; have p157 : 0 ≤ (0 : Int) := (by omega); have q157 : 0 < (l1.length : Int) := of_decide_eq_true hA_; obtain ⟨d0, e157, h0⟩ := Kd.at_int HR1.out 0 p157 q157; cases e157; have qi157 : (0 < l1.length) = True := eq_true (by omega); (try rw [show ((0 : Int)).toNat = 0 from rfl] at h0); (try rw [Addr.add_zero'] at h0); replace h0 := cl_ HB.out h0; replace p157 := eq_true p157; replace q157 := eq_true q157; obtain ⟨z4, z5, f4, f5⟩ := bx2_ B0.out))
  refine bodyPost_ret (results_cell_row rfl _ _ g0 27 #[.int .i64 3, .int .i64 0] (0, 0) _ rfl (bP_ (bP_ (hK_ B0.out))) Tryd.underlying27 rfl (by kernel_rfl)) rfl ?_
  exact ⟨hV_, hC_⟩
 rw [if_neg c10] at H
 have c10b0 : ((rd l1 0) == 3) = false := beq_eq_false_iff_ne.mpr c10
 have c10b1 : ((rd l1 0) != 3) = true := bne_iff_ne.mpr c10
 replace H := Option.bind_eq_some_iff.mp H
 obtain ⟨⟨t1, t2⟩, A130, H⟩ := H
 try dsimp only at H
 have A13 := a_ A130
 clear A130
 have H' := a_ H
 clear H
 go_enter Tryd.func14, Tryd.ntmps14
 go_wp2_with (first | ((with_reducible refine gate_dst (N := 4) rfl ?_); refine boxE_ 4 #[.int .i64 0, .int .i64 0] 27 ?_; intro g0 hg w1 hbox hb; have B0 := a_ (hbox); have E0 := a_ ((gE_ hg : w.heap.size ≤ g0)); replace HB := a_ (below_step hB_ hb); clear hb hbox hg; have p157 : 0 ≤ (0 : Int) := (by omega); have q157 : 0 < (l1.length : Int) := of_decide_eq_true hA_; obtain ⟨d0, e157, h0⟩ := Kd.at_int HR1.out 0 p157 q157; cases e157; have qi157 : (0 < l1.length) = True := eq_true (by omega); (try rw [show ((0 : Int)).toNat = 0 from rfl] at h0); (try rw [Addr.add_zero'] at h0); replace h0 := cl_ HB.out h0; replace p157 := eq_true p157; replace q157 := eq_true q157) | ((with_reducible refine gate_callee (f := 23) rfl ?_); refine goesL_ (some 26) rfl rfl Tryd.func23 (by kernel_rfl) rfl #[.slice A0 l0.length c0, .slice (some d0) l1.length c1, .int .i64 0, .int .i64 2] rfl hL_ ?_; (with_reducible refine (top_first.calls _ _ l0 _ _ l1 0 2 t1 t2 _ ?s1 ?s2 ?s3 ?s4 A13.out).mono ?_); (case s1 => exact cB_ HR0.out); (case s2 => exact HC0.out); (case s3 => exact cB_ HR1.out); (case s4 => exact HC1.out); rintro e w2 ⟨rfl, hb⟩; refine ⟨_, rfl, ?_⟩; replace B0 := a_ (bB_ B0.out hb); replace HB := a_ (below_step hC_ hb); (try clear hb); (try clear hb2); (try clear hk); (try clear hi)))
 (try simp only [Act.put, List.setIfInBounds_toArray, List.set_cons_zero, List.set_cons_succ])
 go_loopg [5, 6, 7] k (fun kq v5 v6 v7 w' => ∃ (x0 : Int) (x1 : Int) (x2 : Bool), v5 = .int .i64 x0 ∧ v6 = .int .i64 x1 ∧ v7 = .bool x2 ∧ Aside0 (top_Ask.l0 kq l0 l1 x0 x1 x2 = some (r1, r2)) ∧ Aside0 (kq ≤ k) ∧ Aside0 (w'.heap[g0]? = some (.cells #[.int .i64 0, .int .i64 0] 27 (0, 0))) ∧ Aside0 (Below w.heap.size w w'))
 case atStart => exact ⟨(0), (t1), (t2), hW_, hW_, hW_, H', ⟨Nat.le_refl _⟩, ⟨(hK_ B0.out)⟩, ⟨hC_⟩⟩
 case round =>
  clear H'
  try clear c1
  try clear p1
  try clear q1
  try clear h1
  try clear qi1
  try clear c2
  try clear p2
  try clear c3
  try clear c3b0
  try clear c3b1
  try clear c4
  try clear c4b0
  try clear c4b1
  try clear c7
  try clear c7b0
  try clear c7b1
  try clear c10
  try clear c10b0
  try clear c10b1
  try clear c14
  try clear p15
  try clear q15
  try clear h2
  try clear qi15
  try clear z4
  try clear z5
  try clear z0
  try clear z1
  try clear z2
  try clear z3
  try clear f4
  try clear f5
  try clear f0
  try clear f1
  try clear f2
  try clear f3
  try clear h0
  try clear p157
  try clear q157
  obtain ⟨x0, x1, x2, rfl, rfl, rfl, HA, HK1, B0, HB⟩ := hrel
  cases gk with
  | zero => exact absurd HA.out (by simp [top_Ask.l0])
  | succ k1 =>
   have H := HA.out
   clear HA
   simp only [top_Ask.l0] at H
   by_cases c16 : x2 = true
   case pos =>
    subst c16
    rw [if_pos rfl] at H
    replace H := Option.bind_eq_some_iff.mp H
    obtain ⟨⟨t3, t4⟩, A170, H⟩ := H
    try dsimp only at H
    have A17 := a_ A170
    clear A170
    have H' := a_ H
    clear H
    go_wp2_with (first | ((with_reducible refine gate_callee (f := 23) rfl ?_); refine goesL_ (some 34) rfl rfl Tryd.func23 (by kernel_rfl) rfl #[.slice A0 l0.length c0, .slice (some d0) l1.length c1, .int .i64 x1, .int .i64 2] rfl hL_ ?_; (with_reducible refine (top_first.calls _ _ l0 _ _ l1 x1 2 t3 t4 _ ?s1 ?s2 ?s3 ?s4 A17.out).mono ?_); (case s1 => exact cB_ HR0.out); (case s2 => exact HC0.out); (case s3 => exact cB_ HR1.out); (case s4 => exact HC1.out); rintro e w3 ⟨rfl, hb⟩; refine ⟨_, rfl, ?_⟩; replace B0 := a_ (bB_ B0.out hb); replace HB := a_ (below_step hC_ hb); (try clear hb); (try clear hb2); (try clear hk); (try clear hi)))
    go_roundg k1
    case measure => have := HK1.out; omega
    case rel => exact ⟨(x1), (t3), (t4), hW_, hW_, hW_, H', ⟨by have := HK1.out; omega⟩, ⟨(hK_ B0.out)⟩, ⟨hC_⟩⟩
   replace c16 := Bool.eq_false_iff.mpr c16
   subst c16
   rw [if_neg (show ¬ (false = true) by decide)] at H
   replace H := Option.bind_eq_some_iff.mp H
   obtain ⟨⟨t0, t7⟩, A190, H⟩ := H
   try dsimp only at H
   have A19 := a_ A190
   clear A190
   by_cases c20 : t7 = true
   case pos =>
    subst c20
    rw [if_pos rfl] at H
    simp only [Option.some.injEq, Prod.mk.injEq] at H
    obtain ⟨rfl, rfl⟩ := H
    go_wp2_with (first | ((with_reducible refine gate_callee (f := 23) rfl ?_); refine goesL_ (some 42) rfl rfl Tryd.func23 (by kernel_rfl) rfl #[.slice A0 l0.length c0, .slice (some d0) l1.length c1, .int .i64 x0, .int .i64 0] rfl hL_ ?_; (with_reducible refine (top_first.calls _ _ l0 _ _ l1 x0 0 t0 true _ ?s1 ?s2 ?s3 ?s4 A19.out).mono ?_); (case s1 => exact cB_ HR0.out); (case s2 => exact HC0.out); (case s3 => exact cB_ HR1.out); (case s4 => exact HC1.out); rintro e w4 ⟨rfl, hb⟩; refine ⟨_, rfl, ?_⟩; replace B0 := a_ (bB_ B0.out hb); replace HB := a_ (below_step hC_ hb); (try clear hb); (try clear hb2); (try clear hk); (try clear hi); obtain ⟨z6, z7, f6, f7⟩ := bx2_ B0.out))
    refine bodyPost_ret (results_cell_row rfl _ _ g0 27 #[.int .i64 0, .int .i64 t0] (0, 0) _ rfl (bP_ (bP_ (hK_ B0.out))) Tryd.underlying27 rfl (by kernel_rfl)) rfl ?_
    exact ⟨hV_, hC_⟩
   replace c20 := Bool.eq_false_iff.mpr c20
   subst c20
   rw [if_neg (show ¬ (false = true) by decide)] at H
   replace H := Option.bind_eq_some_iff.mp H
   obtain ⟨⟨t5, t6⟩, A230, H⟩ := H
   try dsimp only at H
   have A23 := a_ A230
   clear A230
   simp only [Option.some.injEq, Prod.mk.injEq] at H
   obtain ⟨rfl, rfl⟩ := H
   go_wp2_with (first | ((with_reducible refine gate_callee (f := 23) rfl ?_); refine goesL_ (some 42) rfl rfl Tryd.func23 (by kernel_rfl) rfl #[.slice A0 l0.length c0, .slice (some d0) l1.length c1, .int .i64 x0, .int .i64 0] rfl hL_ ?_; (with_reducible refine (top_first.calls _ _ l0 _ _ l1 x0 0 t0 false _ ?s1 ?s2 ?s3 ?s4 A19.out).mono ?_); (case s1 => exact cB_ HR0.out); (case s2 => exact HC0.out); (case s3 => exact cB_ HR1.out); (case s4 => exact HC1.out); rintro e w6 ⟨rfl, hb⟩; refine ⟨_, rfl, ?_⟩; replace B0 := a_ (bB_ B0.out hb); replace HB := a_ (below_step hC_ hb); (try clear hb); (try clear hb2); (try clear hk); (try clear hi)) | ((with_reducible refine gate_callee (f := 24) rfl ?_); refine goesL_ (some 51) rfl rfl Tryd.func24 (by kernel_rfl) rfl #[.slice A0 l0.length c0, .slice (some d0) l1.length c1, .int .i64 x0] rfl hL_ ?_; (with_reducible refine (top_Bug.calls _ _ l0 _ _ l1 x0 t5 t6 _ ?s1 ?s2 ?s3 ?s4 A23.out).mono ?_); (case s1 => exact cB_ HR0.out); (case s2 => exact HC0.out); (case s3 => exact cB_ HR1.out); (case s4 => exact HC1.out); rintro e w7 ⟨rfl, hb⟩; refine ⟨_, rfl, ?_⟩; replace B0 := a_ (bB_ B0.out hb); replace HB := a_ (below_step hC_ hb); (try clear hb); (try clear hb2); (try clear hk); (try clear hi); obtain ⟨z8, z9, f8, f9⟩ := bx2_ B0.out))
   refine bodyPost_ret (results_cell_row rfl _ _ g0 27 #[.int .i64 t5, .int .i64 t6] (0, 0) _ rfl (bP_ (bP_ (hK_ B0.out))) Tryd.underlying27 rfl (by kernel_rfl)) rfl ?_
   exact ⟨hV_, hC_⟩
def top_Next.f (k : Nat) (l0 : List (S40)) (l1 : List Int) : Option (Int × Int × Int) := (top_May.f k l0 l1).bind fun t167 => (if t167 = true then ((top_Ask.f k l0 l1).bind fun bt168 => (some (bt168.1, bt168.2, 0))) else (some (0, 0, 1800)))
theorem top_Next.calls (k : Nat) (A0 : Option Addr) (c0 : Nat) (l0 : List (S40)) (A1 : Option Addr) (c1 : Nat) (l1 : List Int) (r1 : Int) (r2 : Int) (r3 : Int) (w : World) (hr0 : Kd.C k40 w A0 l0.length l0) (hc0 : l0.length ≤ c0) (hr1 : Kd.C (Kd.int .i64) w A1 l1.length l1) (hc1 : l1.length ≤ c1) (h : top_Next.f k l0 l1 = some (r1, r2, r3)) (hG : GOK w) :
 Calls Tryd.prog 6 #[.slice A0 l0.length c0, .slice A1 l1.length c1] w fun e w' => e = .returned (.tuple #[.agg #[.int .i64 r1, .int .i64 r2], .int .i64 r3]) ∧ Below w.heap.size w w' := by
 have hu27 := Tryd.underlying27
 have HR0 := a_ hr0
 have HC0 := a_ hc0
 clear hr0 hc0
 have HR1 := a_ hr1
 have HC1 := a_ hc1
 clear hr1 hc1
 have HB := a_ (Below.refl w.heap.size w)
 have H := h; unfold top_Next.f at H
 clear h
 replace H := Option.bind_eq_some_iff.mp H
 obtain ⟨t2, A30, H⟩ := H
 try dsimp only at H
 have A3 := a_ A30
 clear A30
 by_cases c4 : t2 = true
 case neg =>
  replace c4 := Bool.eq_false_iff.mpr c4
  subst c4
  rw [if_neg (show ¬ (false = true) by decide)] at H
  simp only [Option.some.injEq, Prod.mk.injEq] at H
  obtain ⟨rfl, rfl, rfl⟩ := H
  go_enter Tryd.func6, Tryd.ntmps6
  go_wp2_with (first | ((with_reducible refine gate_dst (N := 4) rfl ?_); refine boxE_ 4 #[.int .i64 0, .int .i64 0] 27 ?_; intro g0 hg w0 hbox hb; have B0 := a_ (hbox); have E0 := a_ ((gE_ hg : w.heap.size ≤ g0)); replace HB := a_ (below_step hB_ hb); clear hb hbox hg) | ((with_reducible refine gate_callee (f := 13) rfl ?_); refine goesL_ (some 8) rfl rfl Tryd.func13 (by kernel_rfl) rfl #[.slice A0 l0.length c0, .slice A1 l1.length c1] rfl hL_ ?_; (with_reducible refine (top_May.calls k _ _ l0 _ _ l1 false _ ?s1 ?s2 ?s3 ?s4 A3.out (by first | exact hG | exact GOK.below hG hC_)).mono ?_); (case s1 => exact cB_ HR0.out); (case s2 => exact HC0.out); (case s3 => exact cB_ HR1.out); (case s4 => exact HC1.out); rintro e w1 ⟨rfl, hb⟩; refine ⟨_, rfl, ?_⟩; replace B0 := a_ (bB_ B0.out hb); replace HB := a_ (below_step hC_ hb); (try clear hb); (try clear hb2); (try clear hk); (try clear hi); obtain ⟨z0, z1, f0, f1⟩ := bx2_ B0.out))
  refine bodyPost_ret (results_ct rfl _ _ g0 27 #[.int .i64 0, .int .i64 0] (0, 0) _ rfl (bP_ (bP_ (hK_ B0.out))) Tryd.underlying27 rfl (by kernel_rfl)) rfl ?_
  exact ⟨hV_, hC_⟩

 subst c4
 rw [if_pos rfl] at H
 replace H := Option.bind_eq_some_iff.mp H
 obtain ⟨⟨t0, t1⟩, A50, H⟩ := H
 try dsimp only at H
 have A5 := a_ A50
 clear A50
 simp only [Option.some.injEq, Prod.mk.injEq] at H
 obtain ⟨rfl, rfl, rfl⟩ := H
 go_enter Tryd.func6, Tryd.ntmps6
 go_wp2_with (first | ((with_reducible refine gate_dst (N := 4) rfl ?_); refine boxE_ 4 #[.int .i64 0, .int .i64 0] 27 ?_; intro g0 hg w6 hbox hb; have B0 := a_ (hbox); have E0 := a_ ((gE_ hg : w.heap.size ≤ g0)); replace HB := a_ (below_step hB_ hb); clear hb hbox hg) | ((with_reducible refine gate_callee (f := 13) rfl ?_); refine goesL_ (some 8) rfl rfl Tryd.func13 (by kernel_rfl) rfl #[.slice A0 l0.length c0, .slice A1 l1.length c1] rfl hL_ ?_; (with_reducible refine (top_May.calls k _ _ l0 _ _ l1 true _ ?s1 ?s2 ?s3 ?s4 A3.out (by first | exact hG | exact GOK.below hG hC_)).mono ?_); (case s1 => exact cB_ HR0.out); (case s2 => exact HC0.out); (case s3 => exact cB_ HR1.out); (case s4 => exact HC1.out); rintro e w7 ⟨rfl, hb⟩; refine ⟨_, rfl, ?_⟩; replace B0 := a_ (bB_ B0.out hb); replace HB := a_ (below_step hC_ hb); (try clear hb); (try clear hb2); (try clear hk); (try clear hi)) | ((with_reducible refine gate_callee (f := 14) rfl ?_); refine goesL_ (some 13) rfl rfl Tryd.func14 (by kernel_rfl) rfl #[.slice A0 l0.length c0, .slice A1 l1.length c1] rfl hL_ ?_; (with_reducible refine (top_Ask.calls k _ _ l0 _ _ l1 t0 t1 _ ?s1 ?s2 ?s3 ?s4 A5.out).mono ?_); (case s1 => exact cB_ HR0.out); (case s2 => exact HC0.out); (case s3 => exact cB_ HR1.out); (case s4 => exact HC1.out); rintro e w8 ⟨rfl, hb⟩; refine ⟨_, rfl, ?_⟩; replace B0 := a_ (bB_ B0.out hb); replace HB := a_ (below_step hC_ hb); (try clear hb); (try clear hb2); (try clear hk); (try clear hi); obtain ⟨z2, z3, f2, f3⟩ := bx2_ B0.out))
 refine bodyPost_ret (results_ct rfl _ _ g0 27 #[.int .i64 t0, .int .i64 t1] (0, 0) _ rfl (bP_ (bP_ (hK_ B0.out))) Tryd.underlying27 rfl (by kernel_rfl)) rfl ?_
 exact ⟨hV_, hC_⟩
end Go.Proofs.YtifhpkakdlfgnaaDoor.G
end
section
namespace Go.Proofs.YtifhpkakdlfgnaaDoor.G
open Go.RowKit Go.Proofs.YtifhpkakdlfgnaaDoorW.PrintWords Go.Proofs.YtifhpkakdlfgnaaDoorW.PrintLast Go.Proofs.YtifhpkakdlfgnaaDoorW.PrintMore
set_option linter.unusedVariables false
set_option linter.unusedSimpArgs false
def marksS (ns : List Nd) (ms : List Int) : Bool := mayT ns && (decide (ms.length = ns.length) && !ms.any oddB)
theorem may_top_ev (ns : List Nd) (ms : List Int) : Ev (fun k => top_May.f k ns ms) (marksS ns ms) := by
  unfold top_May.f marksS
  exact Ev.bind (trailMay_ev ns) (Ev.now _)
theorem marksS_spec {ns : List Nd} {ms : List Int} (h : marksS ns ms = true) : mayT ns = true ∧ ms.length = ns.length ∧ ∀ x ∈ ms, oddB x = false := by
  unfold marksS at h
  rw [Bool.and_eq_true, Bool.and_eq_true, decide_eq_true_iff, Bool.not_eq_true'] at h
  exact ⟨h.1, h.2.1, fun x hx => by have := List.any_eq_false.1 h.2.2 x hx; simpa using this⟩
theorem rd_mem {ms : List Int} (i : Nat) (h : i < ms.length) : rd ms (i : Int) ∈ ms := by
  show List.getD _ _ _ ∈ _
  rw [Int.toNat_natCast, List.getD_eq_getElem?_getD, List.getElem?_eq_getElem h]
  exact List.getElem_mem _
theorem marks_at {ns : List Nd} {ms : List Int} (h : marksS ns ms = true) (i : Nat) (hi : i < ns.length) : 0 ≤ rd ms (i : Int) ∧ rd ms (i : Int) ≤ 3 := by
  obtain ⟨_, hl, hx⟩ := marksS_spec h
  have := hx _ (rd_mem i (by omega))
  unfold oddB at this
  rw [Bool.or_eq_false_iff, decide_eq_false_iff_not, decide_eq_false_iff_not] at this
  omega
theorem upTo_odd (x : Int) : (decide (0 ≤ x) && decide (x ≤ 3)) = !oddB x := by
  unfold oddB
  by_cases h1 : x < 0
  · rw [decide_eq_true h1, decide_eq_false (show ¬ 0 ≤ x by omega)]; rfl
  · rw [decide_eq_false h1, decide_eq_true (show 0 ≤ x by omega)]
    by_cases h2 : 3 < x
    · rw [decide_eq_true h2, decide_eq_false (show ¬ x ≤ 3 by omega)]; rfl
    · rw [decide_eq_false h2, decide_eq_true (show x ≤ 3 by omega)]; rfl
theorem refMarks_l0 (ns : List Nd) (hok : okN ns) (ms : List Int) (hl : ms.length ≤ 9223372036854775806) : ∀ n i : Nat, i + n = ms.length → Ev (fun k => sleuthref12_MarksMay.l0 k ns ms (i : Int)) (!(ms.drop i).any oddB && (mayT ns && decide (ms.length = ns.length))) := by
  intro n
  induction n with
  | zero =>
    intro i hi
    refine Ev.step (f := fun k => (sleuthref12_TrailMay.f k ns).bind fun t391 => (if t391 = true then (some ((ms.length : Int) == (ns.length : Int))) else (some false))) (fun k => by rw [sleuthref12_MarksMay.l0, if_neg (by omega)]) ?_
    refine Ev.bind (refTrail_ev ns hok) ?_
    rw [List.drop_eq_nil_of_le (by omega)]
    cases mayT ns with
    | false => simp only [if_neg Bool.false_ne_true]; exact Ev.now _
    | true =>
      simp only [if_pos]
      have e : ((ms.length : Int) == (ns.length : Int)) = decide (ms.length = ns.length) := by
        by_cases c : ms.length = ns.length
        · rw [decide_eq_true c]; exact beq_iff_eq.2 (by omega)
        · rw [decide_eq_false c]; exact beq_eq_false_iff_ne.2 (by omega)
      rw [e]
      exact Ev.now _
  | succ n ih =>
    intro i hi
    have hw : wrap64 ((i : Int) + 1) = ((i + 1 : Nat) : Int) := by rw [w64 (by omega) (by omega)]; omega
    have hd : ms.drop i = rd ms (i : Int) :: ms.drop (i + 1) := by
      rw [List.drop_eq_getElem_cons (show i < ms.length by omega)]
      congr 1
      show _ = List.getD _ _ _
      rw [Int.toNat_natCast, List.getD_eq_getElem?_getD, List.getElem?_eq_getElem (show i < ms.length by omega)]; rfl
    rw [hd, List.any_cons]
    cases c : oddB (rd ms (i : Int)) with
    | true =>
      refine Ev.step (f := fun _ => some false) (fun k => ?_) (Ev.now _)
      rw [sleuthref12_MarksMay.l0, if_pos (by omega), if_pos (by omega), upTo_eq, Option.bind_some, upTo_odd, c]; rfl
    | false =>
      rw [Bool.false_or]
      refine Ev.step (f := fun k => sleuthref12_MarksMay.l0 k ns ms ((i + 1 : Nat) : Int)) (fun k => ?_) (ih (i + 1) (by omega))
      rw [sleuthref12_MarksMay.l0, if_pos (by omega), if_pos (by omega), upTo_eq, Option.bind_some, upTo_odd, c, hw]; rfl
theorem refMarks_ev (ns : List Nd) (hok : okN ns) (ms : List Int) (hl : ms.length ≤ 9223372036854775806) : Ev (fun k => sleuthref12_MarksMay.f k ns ms) (marksS ns ms) := by
  have h := refMarks_l0 ns hok ms hl ms.length 0 (by omega)
  rw [List.drop_zero] at h
  have e : (!ms.any oddB && (mayT ns && decide (ms.length = ns.length))) = marksS ns ms := by
    unfold marksS
    cases ms.any oddB <;> cases mayT ns <;> cases decide (ms.length = ns.length) <;> rfl
  rw [e] at h
  exact h
theorem fstK_spec {ns : List Nd} {ms : List Int} {a m k : Int} (h : fstK ns ms a m = some k) : a < k ∧ k < (ns.length : Int) ∧ (rn ns k).f1 = a ∧ rd ms k = m := by
  unfold fstK at h
  have h1 := kidsTo_rng ns a k ns.length (List.mem_of_find?_eq_some h)
  have h2 := List.find?_some h
  exact ⟨h1.1, h1.2.1, h1.2.2, by simpa using h2⟩
theorem first_eq {ns : List Nd} {ms : List Int} (h : marksS ns ms = true) (a m : Int) (h0 : 0 ≤ a) (h1 : a < (ns.length : Int)) : top_first.f ns ms a m = some (match fstK ns ms a m with | some k => (k, true) | none => (0, false)) := by
  obtain ⟨hm, hl, _⟩ := marksS_spec h
  have hlen := mayT_len hm
  unfold top_first.f
  rw [if_pos ⟨h0, h1, by omega, hlen.2⟩]
  cases fstK ns ms a m <;> rfl
theorem bug_eq {ns : List Nd} {ms : List Int} (h : marksS ns ms = true) (a : Int) (h0 : 0 ≤ a) (h1 : a < (ns.length : Int)) : top_Bug.f ns ms a = some (bugS ns ms a) := by
  obtain ⟨hm, hl, _⟩ := marksS_spec h
  have hlen := mayT_len hm
  unfold top_Bug.f
  rw [if_pos ⟨h0, h1, by omega, hlen.2⟩]
def downT (ns : List Nd) (ms : List Int) : Nat → Int → Int
  | 0, a => a
  | n + 1, a => match fstK ns ms a 2 with | some k => downT ns ms n k | none => a
def finT (ns : List Nd) (ms : List Int) (a : Int) : Int × Int := match fstK ns ms a 0 with | some k => (0, k) | none => bugS ns ms a
def askT (ns : List Nd) (ms : List Int) : Int × Int := if rd ms 0 = 0 then (0, 0) else if rd ms 0 = 1 then (2, 0) else if rd ms 0 = 3 then (3, 0) else finT ns ms (downT ns ms ns.length 0)
theorem ask_l0 {ns : List Nd} {ms : List Int} (h : marksS ns ms = true) : ∀ (n : Nat) (a : Int), 0 ≤ a → a < (ns.length : Int) → (ns.length : Int) ≤ a + n → ∀ p : Int × Bool, p = (match fstK ns ms a 2 with | some k => (k, true) | none => (0, false)) → Ev (fun q => top_Ask.l0 q ns ms a p.1 p.2) (finT ns ms (downT ns ms n a)) := by
  intro n
  induction n with
  | zero => intro a h0 h1 h2; omega
  | succ n ih =>
    intro a h0 h1 h2 p hp
    cases hf : fstK ns ms a 2 with
    | some k =>
      rw [hf] at hp
      subst hp
      have hk := fstK_spec hf
      have e : downT ns ms (n + 1) a = downT ns ms n k := by rw [downT, hf]
      rw [e]
      refine Ev.step (f := fun q => top_Ask.l0 q ns ms k (match fstK ns ms k 2 with | some k => (k, true) | none => (0, false)).1 (match fstK ns ms k 2 with | some k => (k, true) | none => ((0 : Int), false)).2) (fun q => ?_) (ih k (by omega) hk.2.1 (by omega) _ rfl)
      rw [top_Ask.l0]
      simp only [if_pos, first_eq h k 2 (by omega) hk.2.1, Option.bind_some]
    | none =>
      rw [hf] at hp
      subst hp
      have e : downT ns ms (n + 1) a = a := by rw [downT, hf]
      rw [e]
      refine Ev.step (f := fun _ => some (finT ns ms a)) (fun q => ?_) (Ev.now _)
      rw [top_Ask.l0]
      simp only [if_neg Bool.false_ne_true, first_eq h a 0 h0 h1, Option.bind_some, bug_eq h a h0 h1]
      unfold finT
      cases fstK ns ms a 0 with
      | some k => simp only [if_pos]
      | none => simp only [if_neg Bool.false_ne_true]
theorem ask_ev {ns : List Nd} {ms : List Int} (h : marksS ns ms = true) : Ev (fun k => top_Ask.f k ns ms) (askT ns ms) := by
  obtain ⟨hm, hl, _⟩ := marksS_spec h
  have hlen := mayT_len hm
  unfold top_Ask.f askT
  have g : (0 : Int) < (ms.length : Int) := by omega
  simp only [if_pos g]
  by_cases c0 : rd ms 0 = 0
  · simp only [if_pos c0]; exact Ev.now _
  · simp only [if_neg c0]
    by_cases c1 : rd ms 0 = 1
    · simp only [if_pos c1]; exact Ev.now _
    · simp only [if_neg c1]
      by_cases c3 : rd ms 0 = 3
      · simp only [if_pos c3]; exact Ev.now _
      · simp only [if_neg c3, first_eq h 0 2 (by omega) (by omega), Option.bind_some]
        exact ask_l0 h ns.length 0 (by omega) (by omega) (by omega) _ rfl
end Go.Proofs.YtifhpkakdlfgnaaDoor.G
end
section
namespace Go.Proofs.YtifhpkakdlfgnaaDoor.G
open Go.RowKit Go.Proofs.YtifhpkakdlfgnaaDoorW.PrintWords Go.Proofs.YtifhpkakdlfgnaaDoorW.PrintLast Go.Proofs.YtifhpkakdlfgnaaDoorW.PrintMore
attribute [local go_sem] max2_int min2_int max_two min_two max_three min_three max_four min_four
set_option linter.unusedVariables false
set_option linter.unusedSimpArgs false
theorem eqA27 (d : Nat) (w : World) (x0 y0 : Int) (x1 y1 : Int) :
 (Op.equalIn (d + 2) 27 (.agg #[.int .i64 x0, .int .i64 x1]) (.agg #[.int .i64 y0, .int .i64 y1])).run Tryd.prog w = .ok (x0 == y0 && (x1 == y1)) w := by
 refine eqA_of Tryd.underlying27 (by kernel_rfl) ?_
 refine eqf_cons (by rfl) (by go_simp; rfl) (by go_simp; rfl) (by go_simp) ?_
 exact eqf_last (by rfl) (by go_simp; rfl) (by go_simp; rfl) (by go_simp)
end Go.Proofs.YtifhpkakdlfgnaaDoor.G
end
section
namespace Go.Proofs.YtifhpkakdlfgnaaDoor.G
open Go.RowKit Go.Proofs.YtifhpkakdlfgnaaDoorW.PrintWords Go.Proofs.YtifhpkakdlfgnaaDoorW.PrintLast Go.Proofs.YtifhpkakdlfgnaaDoorW.PrintMore
set_option maxHeartbeats 8000000
set_option maxRecDepth 100000
attribute [local go_sem] max2_int min2_int max_two min_two max_three min_three max_four min_four   -- for this text's walks alone
set_option linter.unusedVariables false
set_option linter.unusedSimpArgs false

attribute [local go_sem high] eqA27
def sleuthlaw18_some.f  : Option ((List (S40))) := some (([(⟨0, (-1), ([] : List ByteArray), (⟨#[57]⟩ : ByteArray)⟩ : S40), (⟨1, 0, (([(⟨#[64, 55, 40, 95, 32, 52, 41]⟩ : ByteArray), (⟨#[53]⟩ : ByteArray)] : List ByteArray)), (⟨#[57]⟩ : ByteArray)⟩ : S40), (⟨2, 0, ([] : List ByteArray), (⟨#[33]⟩ : ByteArray)⟩ : S40), (⟨1, 1, (([(⟨#[49]⟩ : ByteArray), (⟨#[95]⟩ : ByteArray)] : List ByteArray)), (⟨#[95]⟩ : ByteArray)⟩ : S40), (⟨1, 2, (([(⟨#[49]⟩ : ByteArray), (⟨#[95]⟩ : ByteArray)] : List ByteArray)), (⟨#[95]⟩ : ByteArray)⟩ : S40)] : List (S40)))
theorem sleuthlaw18_some.calls  (r : List (S40)) (w : World) (h : sleuthlaw18_some.f  = some r) :
 Calls Tryd.prog 19 #[] w fun e w' => ∃ v0_ : Value, e = .returned (v0_) ∧ Kd.N k40 40 w' w.heap.size (fun k_ => (w.heap.size ≤ k_)) v0_ r ∧ Below w.heap.size w w' := by
 have hu40 := Tryd.underlying40
 have HB := a_ (Below.refl w.heap.size w)
 have H := h; unfold sleuthlaw18_some.f at H
 clear h
 obtain ⟨y0, i0⟩ : ∃ y_ : List ByteArray, y_ = (([(⟨#[64, 55, 40, 95, 32, 52, 41]⟩ : ByteArray), (⟨#[53]⟩ : ByteArray)] : List ByteArray)) := ⟨_, rfl⟩
 replace H : (some (([(⟨0, (-1), ([] : List ByteArray), (⟨#[57]⟩ : ByteArray)⟩ : S40), (⟨1, 0, y0, (⟨#[57]⟩ : ByteArray)⟩ : S40), (⟨2, 0, ([] : List ByteArray), (⟨#[33]⟩ : ByteArray)⟩ : S40), (⟨1, 1, (([(⟨#[49]⟩ : ByteArray), (⟨#[95]⟩ : ByteArray)] : List ByteArray)), (⟨#[95]⟩ : ByteArray)⟩ : S40), (⟨1, 2, (([(⟨#[49]⟩ : ByteArray), (⟨#[95]⟩ : ByteArray)] : List ByteArray)), (⟨#[95]⟩ : ByteArray)⟩ : S40)] : List (S40)))) = some r := by first | (rw [i0]; with_reducible exact H) | (have H2_ := (Option.bind_some _ _).symm.trans H; rw [i0]; with_reducible exact H2_) | (have H2_ := (Option.bind_some _ _).symm.trans H; with_reducible exact H2_) | with_reducible exact H | (rw [i0]; exact H) | exact H
 have Y0 := a_ i0
 clear i0
 obtain ⟨y1, i1⟩ : ∃ y_ : List ByteArray, y_ = (([(⟨#[49]⟩ : ByteArray), (⟨#[95]⟩ : ByteArray)] : List ByteArray)) := ⟨_, rfl⟩
 replace H : (some (([(⟨0, (-1), ([] : List ByteArray), (⟨#[57]⟩ : ByteArray)⟩ : S40), (⟨1, 0, y0, (⟨#[57]⟩ : ByteArray)⟩ : S40), (⟨2, 0, ([] : List ByteArray), (⟨#[33]⟩ : ByteArray)⟩ : S40), (⟨1, 1, y1, (⟨#[95]⟩ : ByteArray)⟩ : S40), (⟨1, 2, (([(⟨#[49]⟩ : ByteArray), (⟨#[95]⟩ : ByteArray)] : List ByteArray)), (⟨#[95]⟩ : ByteArray)⟩ : S40)] : List (S40)))) = some r := by first | (rw [i1]; with_reducible exact H) | (have H2_ := (Option.bind_some _ _).symm.trans H; rw [i1]; with_reducible exact H2_) | (have H2_ := (Option.bind_some _ _).symm.trans H; with_reducible exact H2_) | with_reducible exact H | (rw [i1]; exact H) | exact H
 have Y1 := a_ i1
 clear i1
 obtain ⟨y2, i2⟩ : ∃ y_ : List ByteArray, y_ = (([(⟨#[49]⟩ : ByteArray), (⟨#[95]⟩ : ByteArray)] : List ByteArray)) := ⟨_, rfl⟩
 replace H : (some (([(⟨0, (-1), ([] : List ByteArray), (⟨#[57]⟩ : ByteArray)⟩ : S40), (⟨1, 0, y0, (⟨#[57]⟩ : ByteArray)⟩ : S40), (⟨2, 0, ([] : List ByteArray), (⟨#[33]⟩ : ByteArray)⟩ : S40), (⟨1, 1, y1, (⟨#[95]⟩ : ByteArray)⟩ : S40), (⟨1, 2, y2, (⟨#[95]⟩ : ByteArray)⟩ : S40)] : List (S40)))) = some r := by first | (rw [i2]; with_reducible exact H) | (have H2_ := (Option.bind_some _ _).symm.trans H; rw [i2]; with_reducible exact H2_) | (have H2_ := (Option.bind_some _ _).symm.trans H; with_reducible exact H2_) | with_reducible exact H | (rw [i2]; exact H) | exact H
 have Y2 := a_ i2
 clear i2
 obtain ⟨y3, i3⟩ : ∃ y_ : List (S40), y_ = (([(⟨0, (-1), ([] : List ByteArray), (⟨#[57]⟩ : ByteArray)⟩ : S40), (⟨1, 0, y0, (⟨#[57]⟩ : ByteArray)⟩ : S40), (⟨2, 0, ([] : List ByteArray), (⟨#[33]⟩ : ByteArray)⟩ : S40), (⟨1, 1, y1, (⟨#[95]⟩ : ByteArray)⟩ : S40), (⟨1, 2, y2, (⟨#[95]⟩ : ByteArray)⟩ : S40)] : List (S40))) := ⟨_, rfl⟩
 replace H : (some y3) = some r := by first | (rw [i3]; with_reducible exact H) | (have H2_ := (Option.bind_some _ _).symm.trans H; rw [i3]; with_reducible exact H2_) | (have H2_ := (Option.bind_some _ _).symm.trans H; with_reducible exact H2_) | with_reducible exact H | (rw [i3]; exact H) | exact H
 have Y3 := a_ i3
 clear i3
 obtain rfl := Option.some.inj H
 go_enter Tryd.func19, Tryd.ntmps19
 go_wp2_with (first | ((with_reducible refine gate_dst (N := 2) rfl ?_); refine Kd.R_lit Kd.string _ 9 ?hg (N := 2) ?hd (xs := ([(⟨#[64, 55, 40, 95, 32, 52, 41]⟩ : ByteArray), (⟨#[53]⟩ : ByteArray)] : List ByteArray)) (inner := [.string (⟨#[64, 55, 40, 95, 32, 52, 41]⟩ : ByteArray), .string (⟨#[53]⟩ : ByteArray)]) (ok := fun _ => True) (okp := fun _ => True) ?hr ?hp (fun _ hk => hk) trivial (Below.refl _ _) (Nat.le_refl _) (by simp) ?_; (case hd => rfl); (case hg => rfl); (case hr => first | (go_simp; done) | (go_simp; rfl)); (case hp => exact (Reps.one (show Kd.M Kd.string _ _ _ (⟨#[64, 55, 40, 95, 32, 52, 41]⟩ : ByteArray) [.string (⟨#[64, 55, 40, 95, 32, 52, 41]⟩ : ByteArray)] from rfl) (Reps.one (show Kd.M Kd.string _ _ _ (⟨#[53]⟩ : ByteArray) [.string (⟨#[53]⟩ : ByteArray)] from rfl) (Reps.none _ _)))); intro v0 w1 ho2 hb hg_ hnew_; clear hg_ hnew_; (first | rw [← Y0.out] at ho2 | (simp only [Int.reduceToNat] at ho2; rw [← Y0.out] at ho2)); have P0 := a_ (Kd.R_lower (Kd.R_newM (M := fun k_ => (w.heap.size ≤ k_)) ho2 hS_ (fun k_ h_ => h_)) hS_); replace HB := a_ (below_step hB_ hb); clear hb ho2; obtain ⟨a0, o0, e0⟩ := Kd.R_slice P0.out; subst e0) | ((with_reducible refine gate_dst (N := 5) rfl ?_); refine Kd.R_lit Kd.string _ 9 ?hg (N := 5) ?hd (xs := ([(⟨#[49]⟩ : ByteArray), (⟨#[95]⟩ : ByteArray)] : List ByteArray)) (inner := [.string (⟨#[49]⟩ : ByteArray), .string (⟨#[95]⟩ : ByteArray)]) (ok := fun _ => True) (okp := fun _ => True) ?hr ?hp (fun _ hk => hk) trivial (Below.refl _ _) (Nat.le_refl _) (by simp) ?_; (case hd => rfl); (case hg => rfl); (case hr => first | (go_simp; done) | (go_simp; rfl)); (case hp => exact (Reps.one (show Kd.M Kd.string _ _ _ (⟨#[49]⟩ : ByteArray) [.string (⟨#[49]⟩ : ByteArray)] from rfl) (Reps.one (show Kd.M Kd.string _ _ _ (⟨#[95]⟩ : ByteArray) [.string (⟨#[95]⟩ : ByteArray)] from rfl) (Reps.none _ _)))); intro v1 w4 ho5 hb hg_ hnew_; clear hg_ hnew_; (first | rw [← Y1.out] at ho5 | (simp only [Int.reduceToNat] at ho5; rw [← Y1.out] at ho5)); have P1 := a_ (Kd.R_lower (Kd.R_new' (Kd.R_newM (M := fun k_ => (w.heap.size ≤ k_)) ho5 hS_ (fun k_ h_ => h_)) (Kd.R_lt (hR_ P0.out))) hS_); replace P0 := a_ (Kd.R_elder' (hR_ P0.out) (Kd.R_base ho5) hb); replace HB := a_ (below_step hB_ hb); clear hb ho5; obtain ⟨a1, o1, e1⟩ := Kd.R_slice P1.out; subst e1) | ((with_reducible refine gate_dst (N := 7) rfl ?_); refine Kd.R_lit Kd.string _ 9 ?hg (N := 7) ?hd (xs := ([(⟨#[49]⟩ : ByteArray), (⟨#[95]⟩ : ByteArray)] : List ByteArray)) (inner := [.string (⟨#[49]⟩ : ByteArray), .string (⟨#[95]⟩ : ByteArray)]) (ok := fun _ => True) (okp := fun _ => True) ?hr ?hp (fun _ hk => hk) trivial (Below.refl _ _) (Nat.le_refl _) (by simp) ?_; (case hd => rfl); (case hg => rfl); (case hr => first | (go_simp; done) | (go_simp; rfl)); (case hp => exact (Reps.one (show Kd.M Kd.string _ _ _ (⟨#[49]⟩ : ByteArray) [.string (⟨#[49]⟩ : ByteArray)] from rfl) (Reps.one (show Kd.M Kd.string _ _ _ (⟨#[95]⟩ : ByteArray) [.string (⟨#[95]⟩ : ByteArray)] from rfl) (Reps.none _ _)))); intro v2 w7 ho8 hb hg_ hnew_; clear hg_ hnew_; (first | rw [← Y2.out] at ho8 | (simp only [Int.reduceToNat] at ho8; rw [← Y2.out] at ho8)); have P2 := a_ (Kd.R_lower (Kd.R_new' (Kd.R_new' (Kd.R_newM (M := fun k_ => (w.heap.size ≤ k_)) ho8 hS_ (fun k_ h_ => h_)) (Kd.R_lt (hR_ P0.out))) (Kd.R_lt (hR_ P1.out))) hS_); replace P0 := a_ (Kd.R_elder' (hR_ P0.out) (Kd.R_base ho8) hb); replace P1 := a_ (Kd.R_elder' (hR_ P1.out) (Kd.R_base ho8) hb); replace HB := a_ (below_step hB_ hb); clear hb ho8; obtain ⟨a2, o2, e2⟩ := Kd.R_slice P2.out; subst e2) | ((with_reducible refine gate_dst (N := 9) rfl ?_); refine Kd.N_lit k40 _ 40 ?hg (N' := 9) ?hd (xs := ([(⟨0, (-1), ([] : List ByteArray), (⟨#[57]⟩ : ByteArray)⟩ : S40), (⟨1, 0, y0, (⟨#[57]⟩ : ByteArray)⟩ : S40), (⟨2, 0, ([] : List ByteArray), (⟨#[33]⟩ : ByteArray)⟩ : S40), (⟨1, 1, y1, (⟨#[95]⟩ : ByteArray)⟩ : S40), (⟨1, 2, y2, (⟨#[95]⟩ : ByteArray)⟩ : S40)] : List (S40))) (inner := [.int .i64 0, .int .i64 (-1), .slice none 0 0, .string (⟨#[57]⟩ : ByteArray), .int .i64 1, .int .i64 0, .slice a0 y0.length o0, .string (⟨#[57]⟩ : ByteArray), .int .i64 2, .int .i64 0, .slice none 0 0, .string (⟨#[33]⟩ : ByteArray), .int .i64 1, .int .i64 1, .slice a1 y1.length o1, .string (⟨#[95]⟩ : ByteArray), .int .i64 1, .int .i64 2, .slice a2 y2.length o2, .string (⟨#[95]⟩ : ByteArray)]) (ok := (fun k_ => (w.heap.size ≤ k_))) (okp := (fun k_ => (w.heap.size ≤ k_))) ?hr ?hp (fun _ hk => hk) ((show ∀ k_, w7.heap.size ≤ k_ → (fun k_ => (w.heap.size ≤ k_)) k_ from fun k_ hk => (Nat.le_trans hS_ hk)) _ (Nat.le_refl _)) (Below.refl _ _) (Nat.le_refl _) (by simp) ?_; (case hd => rfl); (case hg => rfl); (case hr => first | (go_simp; done) | (go_simp; rfl)); (case hp => exact (Reps.c4 (show Kd.FK k40 _ _ (⟨0, (-1), ([] : List ByteArray), (⟨#[57]⟩ : ByteArray)⟩ : S40) [.int .i64 0, .int .i64 (-1), .slice none 0 0, .string (⟨#[57]⟩ : ByteArray)] from (k40_mkF _ _ (⟨0, (-1), ([] : List ByteArray), (⟨#[57]⟩ : ByteArray)⟩ : S40) (Nat.le_refl _) (Kd.F_nil _ _ _))) (Reps.c4 (show Kd.FK k40 _ _ (⟨1, 0, y0, (⟨#[57]⟩ : ByteArray)⟩ : S40) [.int .i64 1, .int .i64 0, .slice a0 y0.length o0, .string (⟨#[57]⟩ : ByteArray)] from (k40_mkF _ _ (⟨1, 0, y0, (⟨#[57]⟩ : ByteArray)⟩ : S40) (Kd.R_reads' (Kd.R_mono (ok' := (fun k_ => (w.heap.size ≤ k_))) (P0.out) (fun k_ hk => hk.1.1.1))).2.1 (Kd.R_F (Kd.R_mono (ok' := (fun k_ => (w.heap.size ≤ k_))) (P0.out) (fun k_ hk => hk.1.1.1))))) (Reps.c4 (show Kd.FK k40 _ _ (⟨2, 0, ([] : List ByteArray), (⟨#[33]⟩ : ByteArray)⟩ : S40) [.int .i64 2, .int .i64 0, .slice none 0 0, .string (⟨#[33]⟩ : ByteArray)] from (k40_mkF _ _ (⟨2, 0, ([] : List ByteArray), (⟨#[33]⟩ : ByteArray)⟩ : S40) (Nat.le_refl _) (Kd.F_nil _ _ _))) (Reps.c4 (show Kd.FK k40 _ _ (⟨1, 1, y1, (⟨#[95]⟩ : ByteArray)⟩ : S40) [.int .i64 1, .int .i64 1, .slice a1 y1.length o1, .string (⟨#[95]⟩ : ByteArray)] from (k40_mkF _ _ (⟨1, 1, y1, (⟨#[95]⟩ : ByteArray)⟩ : S40) (Kd.R_reads' (Kd.R_mono (ok' := (fun k_ => (w.heap.size ≤ k_))) (P1.out) (fun k_ hk => hk.1.1.1))).2.1 (Kd.R_F (Kd.R_mono (ok' := (fun k_ => (w.heap.size ≤ k_))) (P1.out) (fun k_ hk => hk.1.1.1))))) (Reps.c4 (show Kd.FK k40 _ _ (⟨1, 2, y2, (⟨#[95]⟩ : ByteArray)⟩ : S40) [.int .i64 1, .int .i64 2, .slice a2 y2.length o2, .string (⟨#[95]⟩ : ByteArray)] from (k40_mkF _ _ (⟨1, 2, y2, (⟨#[95]⟩ : ByteArray)⟩ : S40) (Kd.R_reads' (Kd.R_mono (ok' := (fun k_ => (w.heap.size ≤ k_))) (P2.out) (fun k_ hk => hk.1.1.1))).2.1 (Kd.R_F (Kd.R_mono (ok' := (fun k_ => (w.heap.size ≤ k_))) (P2.out) (fun k_ hk => hk.1.1.1))))) (Reps.none _ _))))))); intro v3 w0 ho11 hb hg_ hnew_; clear hg_ hnew_; (first | rw [← Y3.out] at ho11 | (simp only [Int.reduceToNat] at ho11; rw [← Y3.out] at ho11)); have P3 := a_ (Kd.N_lower ho11 hS_); replace HB := a_ (below_step hB_ hb); clear P0 P1 P2; clear hb ho11))
 go_ret
 exact ⟨_, hV_, hN_ P3.out, hC_⟩

def sleuthlaw18_awake.f (k : Nat)  : Option (Bool) := (sleuthlaw18_some.f).bind fun t340 => ((top_Next.f k t340 (([0, 0, 0, 0, 0] : List Int))).bind fun bt346 => ((sleuthlaw18_some.f).bind fun t350 => ((top_Next.f k t350 (([2, 1, 0, 0, 0] : List Int))).bind fun bt356 => ((sleuthlaw18_some.f).bind fun t360 => ((top_Next.f k t360 (([2, 1, 2, 0, 1] : List Int))).bind fun bt366 => ((sleuthlaw18_some.f).bind fun t370 => ((top_Next.f k t370 (([2, 3, 1, 0, 0] : List Int))).bind fun bt376 => ((sleuthlaw18_some.f).bind fun t380 => ((top_Next.f k t380 ([] : List Int)).bind fun bt383 => (if (bt346.1 == 0 && (bt346.2.1 == 0)) = true then ((sleuthlaw0_Num.f bt346.2.2).bind fun t387 => (if t387 = 0 then (if (bt356.1 == 0 && (bt356.2.1 == 2)) = true then ((sleuthlaw0_Num.f bt356.2.2).bind fun t388 => (if t388 = 0 then (if (bt366.1 == 1 && (bt366.2.1 == 2)) = true then ((sleuthlaw0_Num.f bt366.2.2).bind fun t389 => (if t389 = 0 then (if (bt376.1 == 3 && (bt376.2.1 == 0)) = true then ((sleuthlaw0_Num.f bt376.2.2).bind fun t390 => (if t390 = 0 then ((sleuthlaw0_Num.f bt383.2.2).bind fun t391 => (some (t391 == 1800))) else (none))) else (none)) else (none))) else (none)) else (none))) else (none)) else (none))) else (none)))))))))))
theorem sleuthlaw18_awake.calls (k : Nat)  (r : Bool) (w : World) (h : sleuthlaw18_awake.f k  = some r) (hG : GOK w) :
 Calls Tryd.prog 11 #[] w fun e w' => e = .returned (.bool r) ∧ Below w.heap.size w w' := by
 have hu27 := Tryd.underlying27
 have HB := a_ (Below.refl w.heap.size w)
 have H := h; unfold sleuthlaw18_awake.f at H
 clear h
 replace H := Option.bind_eq_some_iff.mp H
 obtain ⟨t17, A10, H⟩ := H
 try dsimp only at H
 have A1 := a_ A10
 clear A10
 obtain ⟨y0, i0⟩ : ∃ y_ : List Int, y_ = (([0, 0, 0, 0, 0] : List Int)) := ⟨_, rfl⟩
 replace H : ((top_Next.f k t17 y0).bind fun bt346 => ((sleuthlaw18_some.f).bind fun t15 => ((top_Next.f k t15 (([2, 1, 0, 0, 0] : List Int))).bind fun bt356 => ((sleuthlaw18_some.f).bind fun t14 => ((top_Next.f k t14 (([2, 1, 2, 0, 1] : List Int))).bind fun bt366 => ((sleuthlaw18_some.f).bind fun t10 => ((top_Next.f k t10 (([2, 3, 1, 0, 0] : List Int))).bind fun bt376 => ((sleuthlaw18_some.f).bind fun t11 => ((top_Next.f k t11 ([] : List Int)).bind fun bt383 => (if (bt346.1 == 0 && (bt346.2.1 == 0)) = true then ((sleuthlaw0_Num.f bt346.2.2).bind fun t4 => (if t4 = 0 then (if (bt356.1 == 0 && (bt356.2.1 == 2)) = true then ((sleuthlaw0_Num.f bt356.2.2).bind fun t5 => (if t5 = 0 then (if (bt366.1 == 1 && (bt366.2.1 == 2)) = true then ((sleuthlaw0_Num.f bt366.2.2).bind fun t6 => (if t6 = 0 then (if (bt376.1 == 3 && (bt376.2.1 == 0)) = true then ((sleuthlaw0_Num.f bt376.2.2).bind fun t7 => (if t7 = 0 then ((sleuthlaw0_Num.f bt383.2.2).bind fun t16 => (some (t16 == 1800))) else (none))) else (none)) else (none))) else (none)) else (none))) else (none)) else (none))) else (none))))))))))) = some r := by first | (rw [i0]; with_reducible exact H) | (have H2_ := (Option.bind_some _ _).symm.trans H; rw [i0]; with_reducible exact H2_) | (have H2_ := (Option.bind_some _ _).symm.trans H; with_reducible exact H2_) | with_reducible exact H | (rw [i0]; exact H) | exact H
 have Y0 := a_ i0
 clear i0
 replace H := Option.bind_eq_some_iff.mp H
 obtain ⟨⟨t0, t1, t18⟩, A20, H⟩ := H
 try dsimp only at H
 have A2 := a_ A20
 clear A20
 replace H := Option.bind_eq_some_iff.mp H
 obtain ⟨t15, A30, H⟩ := H
 try dsimp only at H
 have A3 := a_ A30
 clear A30
 obtain ⟨y1, i1⟩ : ∃ y_ : List Int, y_ = (([2, 1, 0, 0, 0] : List Int)) := ⟨_, rfl⟩
 replace H : ((top_Next.f k t15 y1).bind fun bt356 => ((sleuthlaw18_some.f).bind fun t14 => ((top_Next.f k t14 (([2, 1, 2, 0, 1] : List Int))).bind fun bt366 => ((sleuthlaw18_some.f).bind fun t10 => ((top_Next.f k t10 (([2, 3, 1, 0, 0] : List Int))).bind fun bt376 => ((sleuthlaw18_some.f).bind fun t11 => ((top_Next.f k t11 ([] : List Int)).bind fun bt383 => (if (t0 == 0 && (t1 == 0)) = true then ((sleuthlaw0_Num.f t18).bind fun t4 => (if t4 = 0 then (if (bt356.1 == 0 && (bt356.2.1 == 2)) = true then ((sleuthlaw0_Num.f bt356.2.2).bind fun t5 => (if t5 = 0 then (if (bt366.1 == 1 && (bt366.2.1 == 2)) = true then ((sleuthlaw0_Num.f bt366.2.2).bind fun t6 => (if t6 = 0 then (if (bt376.1 == 3 && (bt376.2.1 == 0)) = true then ((sleuthlaw0_Num.f bt376.2.2).bind fun t7 => (if t7 = 0 then ((sleuthlaw0_Num.f bt383.2.2).bind fun t16 => (some (t16 == 1800))) else (none))) else (none)) else (none))) else (none)) else (none))) else (none)) else (none))) else (none))))))))) = some r := by first | (rw [i1]; with_reducible exact H) | (have H2_ := (Option.bind_some _ _).symm.trans H; rw [i1]; with_reducible exact H2_) | (have H2_ := (Option.bind_some _ _).symm.trans H; with_reducible exact H2_) | with_reducible exact H | (rw [i1]; exact H) | exact H
 have Y1 := a_ i1
 clear i1
 replace H := Option.bind_eq_some_iff.mp H
 obtain ⟨⟨t2, t3, t19⟩, A40, H⟩ := H
 try dsimp only at H
 have A4 := a_ A40
 clear A40
 replace H := Option.bind_eq_some_iff.mp H
 obtain ⟨t14, A50, H⟩ := H
 try dsimp only at H
 have A5 := a_ A50
 clear A50
 obtain ⟨y2, i2⟩ : ∃ y_ : List Int, y_ = (([2, 1, 2, 0, 1] : List Int)) := ⟨_, rfl⟩
 replace H : ((top_Next.f k t14 y2).bind fun bt366 => ((sleuthlaw18_some.f).bind fun t10 => ((top_Next.f k t10 (([2, 3, 1, 0, 0] : List Int))).bind fun bt376 => ((sleuthlaw18_some.f).bind fun t11 => ((top_Next.f k t11 ([] : List Int)).bind fun bt383 => (if (t0 == 0 && (t1 == 0)) = true then ((sleuthlaw0_Num.f t18).bind fun t4 => (if t4 = 0 then (if (t2 == 0 && (t3 == 2)) = true then ((sleuthlaw0_Num.f t19).bind fun t5 => (if t5 = 0 then (if (bt366.1 == 1 && (bt366.2.1 == 2)) = true then ((sleuthlaw0_Num.f bt366.2.2).bind fun t6 => (if t6 = 0 then (if (bt376.1 == 3 && (bt376.2.1 == 0)) = true then ((sleuthlaw0_Num.f bt376.2.2).bind fun t7 => (if t7 = 0 then ((sleuthlaw0_Num.f bt383.2.2).bind fun t16 => (some (t16 == 1800))) else (none))) else (none)) else (none))) else (none)) else (none))) else (none)) else (none))) else (none))))))) = some r := by first | (rw [i2]; with_reducible exact H) | (have H2_ := (Option.bind_some _ _).symm.trans H; rw [i2]; with_reducible exact H2_) | (have H2_ := (Option.bind_some _ _).symm.trans H; with_reducible exact H2_) | with_reducible exact H | (rw [i2]; exact H) | exact H
 have Y2 := a_ i2
 clear i2
 replace H := Option.bind_eq_some_iff.mp H
 obtain ⟨⟨t8, t9, t20⟩, A60, H⟩ := H
 try dsimp only at H
 have A6 := a_ A60
 clear A60
 replace H := Option.bind_eq_some_iff.mp H
 obtain ⟨t10, A70, H⟩ := H
 try dsimp only at H
 have A7 := a_ A70
 clear A70
 obtain ⟨y3, i3⟩ : ∃ y_ : List Int, y_ = (([2, 3, 1, 0, 0] : List Int)) := ⟨_, rfl⟩
 replace H : ((top_Next.f k t10 y3).bind fun bt376 => ((sleuthlaw18_some.f).bind fun t11 => ((top_Next.f k t11 ([] : List Int)).bind fun bt383 => (if (t0 == 0 && (t1 == 0)) = true then ((sleuthlaw0_Num.f t18).bind fun t4 => (if t4 = 0 then (if (t2 == 0 && (t3 == 2)) = true then ((sleuthlaw0_Num.f t19).bind fun t5 => (if t5 = 0 then (if (t8 == 1 && (t9 == 2)) = true then ((sleuthlaw0_Num.f t20).bind fun t6 => (if t6 = 0 then (if (bt376.1 == 3 && (bt376.2.1 == 0)) = true then ((sleuthlaw0_Num.f bt376.2.2).bind fun t7 => (if t7 = 0 then ((sleuthlaw0_Num.f bt383.2.2).bind fun t16 => (some (t16 == 1800))) else (none))) else (none)) else (none))) else (none)) else (none))) else (none)) else (none))) else (none))))) = some r := by first | (rw [i3]; with_reducible exact H) | (have H2_ := (Option.bind_some _ _).symm.trans H; rw [i3]; with_reducible exact H2_) | (have H2_ := (Option.bind_some _ _).symm.trans H; with_reducible exact H2_) | with_reducible exact H | (rw [i3]; exact H) | exact H
 have Y3 := a_ i3
 clear i3
 replace H := Option.bind_eq_some_iff.mp H
 obtain ⟨⟨t12, t13, t21⟩, A80, H⟩ := H
 try dsimp only at H
 have A8 := a_ A80
 clear A80
 replace H := Option.bind_eq_some_iff.mp H
 obtain ⟨t11, A90, H⟩ := H
 try dsimp only at H
 have A9 := a_ A90
 clear A90
 replace H := Option.bind_eq_some_iff.mp H
 obtain ⟨⟨t23, t24, t22⟩, A100, H⟩ := H
 try dsimp only at H
 have A10 := a_ A100
 clear A100
 by_cases c11 : (t0 == 0 && (t1 == 0)) = true
 case neg =>
  rw [if_neg c11] at H
  have c11b0 : (t0 == 0 && (t1 == 0)) = false := by simpa using c11
  (try (have c11b1 : decide (t0 = 0 && (t1 == 0)) = false := by simpa using c11))
  (try (have c11b2 : (t0 == 0 && (t1 == 0)) = false := by simpa using c11))
  (try (have c11b3 : ¬ (t0 = 0 && (t1 == 0)) := by simpa using c11))
  clear c11
  cases H
 rw [if_pos c11] at H
 have c11b0 : (t0 == 0 && (t1 == 0)) = true := c11
 (try (have c11b1 : decide (t0 = 0 && (t1 == 0)) = true := by simpa using c11))
 (try (have c11b2 : (t0 == 0 && (t1 == 0)) = true := by simpa using c11))
 clear c11
 replace H := Option.bind_eq_some_iff.mp H
 obtain ⟨t4, A120, H⟩ := H
 try dsimp only at H
 have A12 := a_ A120
 clear A120
 by_cases c13 : t4 = 0
 case neg =>
  rw [if_neg c13] at H
  have c13b0 : (t4 == 0) = false := beq_eq_false_iff_ne.mpr c13
  have c13b1 : (t4 != 0) = true := bne_iff_ne.mpr c13
  cases H
 rw [if_pos c13] at H
 have c13b0 : (t4 == 0) = true := beq_iff_eq.mpr c13
 have c13b1 : (t4 != 0) = false := bne_eq_false_iff_eq.mpr c13
 clear c13
 by_cases c14 : (t2 == 0 && (t3 == 2)) = true
 case neg =>
  rw [if_neg c14] at H
  have c14b0 : (t2 == 0 && (t3 == 2)) = false := by simpa using c14
  (try (have c14b1 : decide (t2 = 0 && (t3 == 2)) = false := by simpa using c14))
  (try (have c14b2 : (t2 == 0 && (t3 == 2)) = false := by simpa using c14))
  (try (have c14b3 : ¬ (t2 = 0 && (t3 == 2)) := by simpa using c14))
  clear c14
  cases H
 rw [if_pos c14] at H
 have c14b0 : (t2 == 0 && (t3 == 2)) = true := c14
 (try (have c14b1 : decide (t2 = 0 && (t3 == 2)) = true := by simpa using c14))
 (try (have c14b2 : (t2 == 0 && (t3 == 2)) = true := by simpa using c14))
 clear c14
 replace H := Option.bind_eq_some_iff.mp H
 obtain ⟨t5, A150, H⟩ := H
 try dsimp only at H
 have A15 := a_ A150
 clear A150
 by_cases c16 : t5 = 0
 case neg =>
  rw [if_neg c16] at H
  have c16b0 : (t5 == 0) = false := beq_eq_false_iff_ne.mpr c16
  have c16b1 : (t5 != 0) = true := bne_iff_ne.mpr c16
  cases H
 rw [if_pos c16] at H
 have c16b0 : (t5 == 0) = true := beq_iff_eq.mpr c16
 have c16b1 : (t5 != 0) = false := bne_eq_false_iff_eq.mpr c16
 clear c16
 by_cases c17 : (t8 == 1 && (t9 == 2)) = true
 case neg =>
  rw [if_neg c17] at H
  have c17b0 : (t8 == 1 && (t9 == 2)) = false := by simpa using c17
  (try (have c17b1 : decide (t8 = 1 && (t9 == 2)) = false := by simpa using c17))
  (try (have c17b2 : (t8 == 1 && (t9 == 2)) = false := by simpa using c17))
  (try (have c17b3 : ¬ (t8 = 1 && (t9 == 2)) := by simpa using c17))
  clear c17
  cases H
 rw [if_pos c17] at H
 have c17b0 : (t8 == 1 && (t9 == 2)) = true := c17
 (try (have c17b1 : decide (t8 = 1 && (t9 == 2)) = true := by simpa using c17))
 (try (have c17b2 : (t8 == 1 && (t9 == 2)) = true := by simpa using c17))
 clear c17
 replace H := Option.bind_eq_some_iff.mp H
 obtain ⟨t6, A180, H⟩ := H
 try dsimp only at H
 have A18 := a_ A180
 clear A180
 by_cases c19 : t6 = 0
 case neg =>
  rw [if_neg c19] at H
  have c19b0 : (t6 == 0) = false := beq_eq_false_iff_ne.mpr c19
  have c19b1 : (t6 != 0) = true := bne_iff_ne.mpr c19
  cases H
 rw [if_pos c19] at H
 have c19b0 : (t6 == 0) = true := beq_iff_eq.mpr c19
 have c19b1 : (t6 != 0) = false := bne_eq_false_iff_eq.mpr c19
 clear c19
 by_cases c20 : (t12 == 3 && (t13 == 0)) = true
 case neg =>
  rw [if_neg c20] at H
  have c20b0 : (t12 == 3 && (t13 == 0)) = false := by simpa using c20
  (try (have c20b1 : decide (t12 = 3 && (t13 == 0)) = false := by simpa using c20))
  (try (have c20b2 : (t12 == 3 && (t13 == 0)) = false := by simpa using c20))
  (try (have c20b3 : ¬ (t12 = 3 && (t13 == 0)) := by simpa using c20))
  clear c20
  cases H
 rw [if_pos c20] at H
 have c20b0 : (t12 == 3 && (t13 == 0)) = true := c20
 (try (have c20b1 : decide (t12 = 3 && (t13 == 0)) = true := by simpa using c20))
 (try (have c20b2 : (t12 == 3 && (t13 == 0)) = true := by simpa using c20))
 clear c20
 replace H := Option.bind_eq_some_iff.mp H
 obtain ⟨t7, A210, H⟩ := H
 try dsimp only at H
 have A21 := a_ A210
 clear A210
 by_cases c22 : t7 = 0
 case neg =>
  rw [if_neg c22] at H
  have c22b0 : (t7 == 0) = false := beq_eq_false_iff_ne.mpr c22
  have c22b1 : (t7 != 0) = true := bne_iff_ne.mpr c22
  cases H
 rw [if_pos c22] at H
 have c22b0 : (t7 == 0) = true := beq_iff_eq.mpr c22
 have c22b1 : (t7 != 0) = false := bne_eq_false_iff_eq.mpr c22
 clear c22
 replace H := Option.bind_eq_some_iff.mp H
 obtain ⟨t16, A230, H⟩ := H
 try dsimp only at H
 have A23 := a_ A230
 clear A230
 obtain rfl := Option.some.inj H
 go_enter Tryd.func11, Tryd.ntmps11
 go_wp2_with (first | ((with_reducible refine gate_callee (f := 19) rfl ?_); refine goesL_ (some 12) rfl rfl Tryd.func19 (by kernel_rfl) rfl #[] rfl hL_ ?_; (with_reducible refine (sleuthlaw18_some.calls  t17 _ A1.out).mono ?_); rintro e w0 ⟨v0, rfl, ho0, hb⟩; refine ⟨_, rfl, ?_⟩; have P1 := a_ (Kd.N_lower (Kd.N_mono (ok' := fun k_ => True) ho0 (fun k_ hk_ => trivial)) hS_); replace HB := a_ (below_step hB_ hb); (try clear hb); (try clear hb2); (try clear hk); (try clear hi); (try clear ho0)) | ((with_reducible refine gate_dst (N := 13) rfl ?_); refine Kd.R_lit (Kd.int .i64) _ 3 ?hg (N := 13) ?hd (xs := ([0, 0, 0, 0, 0] : List Int)) (inner := [.int .i64 0, .int .i64 0, .int .i64 0, .int .i64 0, .int .i64 0]) (ok := fun _ => True) (okp := fun _ => True) ?hr ?hp (fun _ hk => hk) trivial (Below.refl _ _) (Nat.le_refl _) (by simp) ?_; (case hd => rfl); (case hg => rfl); (case hr => first | (go_simp; done) | (go_simp; rfl)); (case hp => exact (Reps.one (show Kd.M (Kd.int .i64) _ _ _ 0 [.int .i64 0] from rfl) (Reps.one (show Kd.M (Kd.int .i64) _ _ _ 0 [.int .i64 0] from rfl) (Reps.one (show Kd.M (Kd.int .i64) _ _ _ 0 [.int .i64 0] from rfl) (Reps.one (show Kd.M (Kd.int .i64) _ _ _ 0 [.int .i64 0] from rfl) (Reps.one (show Kd.M (Kd.int .i64) _ _ _ 0 [.int .i64 0] from rfl) (Reps.none _ _))))))); intro v1 w1 ho26 hb hg_ hnew_; clear hg_ hnew_; (first | rw [← Y0.out] at ho26 | (simp only [Int.reduceToNat] at ho26; rw [← Y0.out] at ho26)); replace P1 := a_ (Kd.N_elder' (hN_ P1.out) (Kd.R_base ho26) hb); have P0 := a_ (Kd.R_lower ho26 hS_); replace HB := a_ (below_step hB_ hb); clear hb ho26; obtain ⟨a0, o0, e0⟩ := Kd.N_slice P1.out; subst e0; obtain ⟨a1, o1, e1⟩ := Kd.R_slice P0.out; subst e1) | ((with_reducible refine gate_callee (f := 6) rfl ?_); refine goesL_ (some 14) rfl rfl Tryd.func6 (by kernel_rfl) rfl #[.slice a0 t17.length o0, .slice a1 y0.length o1] rfl hL_ ?_; (with_reducible refine (top_Next.calls k _ _ t17 _ _ y0 t0 t1 t18 _ ?s1 ?s2 ?s3 ?s4 A2.out hG_).mono ?_); (case s1 => repeat (first | exact (Kd.N_reads' P1.out).2.2 | (with_reducible refine Kd.C_alloc ?_ _) | (with_reducible refine Kd.C_drewN ?_ _) | (with_reducible refine Kd.C_drew ?_))); (case s2 => exact (Kd.N_reads' P1.out).2.1); (case s3 => exact cC_ (Kd.R_reads' P0.out).2.2); (case s4 => exact (Kd.R_reads' P0.out).2.1); rintro e w2 ⟨rfl, hb⟩; refine ⟨_, rfl, ?_⟩; replace P1 := a_ (Kd.N_below (hN_ P1.out) hb); replace P0 := a_ (Kd.R_below (hR_ P0.out) hb); replace HB := a_ (below_step hB_ hb); (try clear hb); (try clear hb2); (try clear hk); (try clear hi)) | ((with_reducible refine gate_dst (N := 1) rfl ?_); refine boxE_ 1 #[.int .i64 0, .int .i64 0] 27 ?_; intro g0 hg w3 hbox hb; replace P1 := a_ (Kd.N_below (Kd.N_elderB (hN_ P1.out) g0 (Nat.le_of_eq hg.symm)) hb); replace P0 := a_ (Kd.R_below (hR_ P0.out) hb); have B0 := a_ (hbox); have E0 := a_ ((gE_ hg : w.heap.size ≤ g0)); replace HB := a_ (below_step hB_ hb); clear hb hbox hg; obtain ⟨z0, z1, f0, f1⟩ := bx2_ B0.out) | ((with_reducible refine gate_callee (f := 19) rfl ?_); refine goesL_ (some 18) rfl rfl Tryd.func19 (by kernel_rfl) rfl #[] rfl hL_ ?_; (with_reducible refine (sleuthlaw18_some.calls  t15 _ A3.out).mono ?_); rintro e w4 ⟨v2, rfl, ho0, hb⟩; refine ⟨_, rfl, ?_⟩; have P2 := a_ (Kd.N_lower (Kd.N_mono (ok' := fun k_ => some k_ ≠ (.slice a0 t17.length o0 : Value).ownBlock ∧ some k_ ≠ (.slice a1 y0.length o1 : Value).ownBlock ∧ k_ ≠ g0) ho0 (fun k_ hk_ => ⟨(Kd.fresh' (Kd.N_lt (by (with_reducible repeat (first | apply Kd.N_alloc | apply Kd.N_drewN | apply Kd.N_drew)); exact (Kd.N_mono (nF_ (nF_ (Kd.N_mono P1.out (fun k_ hk => (⟨hk, hk.2⟩ : _ ∧ k_ ≠ g0))))) (fun _ h_ => h_.1)))) k_ hk_), (Kd.fresh' (Kd.R_lt (by (with_reducible repeat (first | apply Kd.R_alloc | apply Kd.R_drewN | apply Kd.R_drew)); exact (Kd.R_mono (rF_ (rF_ (Kd.R_types P0.out B0.out (by decide)))) (fun _ h_ => h_.1)))) k_ hk_), (Kd.freshB (g := g0) (o := .cells #[.int .i64 t0, .int .i64 t1] 27 (0, 0)) (bP_ (bP_ (hK_ B0.out))) k_ hk_)⟩)) (below_size hC_)); replace P1 := a_ (Kd.N_elder' (by (with_reducible repeat (first | apply Kd.N_alloc | apply Kd.N_drewN | apply Kd.N_drew)); exact (Kd.N_mono (nF_ (nF_ (Kd.N_mono P1.out (fun k_ hk => (⟨hk, hk.2⟩ : _ ∧ k_ ≠ g0))))) (fun _ h_ => h_.1))) (Kd.N_base ho0) hb); replace P0 := a_ (Kd.R_below (by (with_reducible repeat (first | apply Kd.R_alloc | apply Kd.R_drewN | apply Kd.R_drew)); exact (Kd.R_mono (rF_ (rF_ (Kd.R_types P0.out B0.out (by decide)))) (fun _ h_ => h_.1))) hb); replace B0 := a_ (blk_below (g := g0) (o := .cells #[.int .i64 t0, .int .i64 t1] 27 (0, 0)) (by (with_reducible repeat (first | refine blk_drewN ?_ _ | refine blk_drew ?_ | refine blk_alloc ?_ _)); exact (bP_ (bP_ (hK_ B0.out)))) hb); replace HB := a_ (below_step hC_ hb); (try clear hb); (try clear hb2); (try clear hk); (try clear hi); (try clear ho0)) | ((with_reducible refine gate_dst (N := 19) rfl ?_); refine Kd.R_lit (Kd.int .i64) _ 3 ?hg (N := 19) ?hd (xs := ([2, 1, 0, 0, 0] : List Int)) (inner := [.int .i64 2, .int .i64 1, .int .i64 0, .int .i64 0, .int .i64 0]) (ok := fun _ => True) (okp := fun _ => True) ?hr ?hp (fun _ hk => hk) trivial (Below.refl _ _) (Nat.le_refl _) (by simp) ?_; (case hd => rfl); (case hg => rfl); (case hr => first | (go_simp; done) | (go_simp; rfl)); (case hp => exact (Reps.one (show Kd.M (Kd.int .i64) _ _ _ 2 [.int .i64 2] from rfl) (Reps.one (show Kd.M (Kd.int .i64) _ _ _ 1 [.int .i64 1] from rfl) (Reps.one (show Kd.M (Kd.int .i64) _ _ _ 0 [.int .i64 0] from rfl) (Reps.one (show Kd.M (Kd.int .i64) _ _ _ 0 [.int .i64 0] from rfl) (Reps.one (show Kd.M (Kd.int .i64) _ _ _ 0 [.int .i64 0] from rfl) (Reps.none _ _))))))); intro v3 w5 ho34 hb hg_ hnew_; clear hg_ hnew_; (first | rw [← Y1.out] at ho34 | (simp only [Int.reduceToNat] at ho34; rw [← Y1.out] at ho34)); replace P1 := a_ (Kd.N_elder' (hN_ P1.out) (Kd.R_base ho34) hb); replace P2 := a_ (Kd.N_elder' (hN_ P2.out) (Kd.R_base ho34) hb); have P3 := a_ (Kd.R_lower (Kd.R_new' ho34 (Kd.R_lt (hR_ P0.out))) (below_size hC_)); replace P0 := a_ (Kd.R_elder' (hR_ P0.out) (Kd.R_base ho34) hb); replace B0 := a_ (bB_ B0.out hb); replace HB := a_ (below_step hC_ hb); clear hb ho34; obtain ⟨a2, o2, e2⟩ := Kd.N_slice P2.out; subst e2; obtain ⟨a3, o3, e3⟩ := Kd.R_slice P3.out; subst e3) | ((with_reducible refine gate_callee (f := 6) rfl ?_); refine goesL_ (some 20) rfl rfl Tryd.func6 (by kernel_rfl) rfl #[.slice a2 t15.length o2, .slice a3 y1.length o3] rfl hL_ ?_; (with_reducible refine (top_Next.calls k _ _ t15 _ _ y1 t2 t3 t19 _ ?s1 ?s2 ?s3 ?s4 A4.out (by first | exact hG | exact GOK.below hG hC_)).mono ?_); (case s1 => repeat (first | exact (Kd.N_reads' P2.out).2.2 | (with_reducible refine Kd.C_alloc ?_ _) | (with_reducible refine Kd.C_drewN ?_ _) | (with_reducible refine Kd.C_drew ?_))); (case s2 => exact (Kd.N_reads' P2.out).2.1); (case s3 => exact cC_ (Kd.R_reads' P3.out).2.2); (case s4 => exact (Kd.R_reads' P3.out).2.1); rintro e w6 ⟨rfl, hb⟩; refine ⟨_, rfl, ?_⟩; replace P1 := a_ (Kd.N_below (hN_ P1.out) hb); replace P0 := a_ (Kd.R_below (hR_ P0.out) hb); replace P2 := a_ (Kd.N_below (hN_ P2.out) hb); replace P3 := a_ (Kd.R_below (hR_ P3.out) hb); replace B0 := a_ (bB_ B0.out hb); replace HB := a_ (below_step hC_ hb); (try clear hb); (try clear hb2); (try clear hk); (try clear hi)) | ((with_reducible refine gate_dst (N := 3) rfl ?_); refine boxE_ 3 #[.int .i64 0, .int .i64 0] 27 ?_; intro g1 hg w7 hbox hb; replace P1 := a_ (Kd.N_below (Kd.N_elderB (hN_ P1.out) g1 (Nat.le_of_eq hg.symm)) hb); replace P0 := a_ (Kd.R_below (hR_ P0.out) hb); replace P2 := a_ (Kd.N_below (Kd.N_elderB (hN_ P2.out) g1 (Nat.le_of_eq hg.symm)) hb); replace P3 := a_ (Kd.R_below (hR_ P3.out) hb); have B1 := a_ (hbox); have E1 := a_ ((gE_ hg : w.heap.size ≤ g1)); replace HB := a_ (below_step hC_ hb); have N0 := a_ ((bL_ B0.out hg : g0 ≠ g1)); have N6 := a_ ((bG_ B0.out hg : g1 ≠ g0)); replace B0 := a_ (bB_ B0.out hb); clear hb hbox hg; have m0 := N6.out; have n0 := N0.out; obtain ⟨z2, z3, f2, f3⟩ := bx2_ B1.out) | ((with_reducible refine gate_callee (f := 19) rfl ?_); refine goesL_ (some 24) rfl rfl Tryd.func19 (by kernel_rfl) rfl #[] rfl hL_ ?_; (with_reducible refine (sleuthlaw18_some.calls  t14 _ A5.out).mono ?_); rintro e w8 ⟨v4, rfl, ho0, hb⟩; refine ⟨_, rfl, ?_⟩; have P4 := a_ (Kd.N_lower (Kd.N_mono (ok' := fun k_ => some k_ ≠ (.slice a0 t17.length o0 : Value).ownBlock ∧ some k_ ≠ (.slice a1 y0.length o1 : Value).ownBlock ∧ some k_ ≠ (.slice a2 t15.length o2 : Value).ownBlock ∧ some k_ ≠ (.slice a3 y1.length o3 : Value).ownBlock ∧ k_ ≠ g0 ∧ k_ ≠ g1) ho0 (fun k_ hk_ => ⟨(Kd.fresh' (Kd.N_lt (by (with_reducible repeat (first | apply Kd.N_alloc | apply Kd.N_drewN | apply Kd.N_drew)); exact (Kd.N_mono (nF_ (nF_ (Kd.N_mono P1.out (fun k_ hk => (⟨hk, hk.2⟩ : _ ∧ k_ ≠ g1))))) (fun _ h_ => h_.1)))) k_ hk_), (Kd.fresh' (Kd.R_lt (by (with_reducible repeat (first | apply Kd.R_alloc | apply Kd.R_drewN | apply Kd.R_drew)); exact (Kd.R_mono (rF_ (rF_ (Kd.R_types P0.out B1.out (by decide)))) (fun _ h_ => h_.1)))) k_ hk_), (Kd.fresh' (Kd.N_lt (by (with_reducible repeat (first | apply Kd.N_alloc | apply Kd.N_drewN | apply Kd.N_drew)); exact (Kd.N_mono (nF_ (nF_ (Kd.N_mono P2.out (fun k_ hk => (⟨hk, hk.2⟩ : _ ∧ k_ ≠ g1))))) (fun _ h_ => h_.1)))) k_ hk_), (Kd.fresh' (Kd.R_lt (by (with_reducible repeat (first | apply Kd.R_alloc | apply Kd.R_drewN | apply Kd.R_drew)); exact (Kd.R_mono (rF_ (rF_ (Kd.R_types P3.out B1.out (by decide)))) (fun _ h_ => h_.1)))) k_ hk_), (Kd.freshB (g := g0) (o := .cells #[.int .i64 t0, .int .i64 t1] 27 (0, 0)) (bF_ (bF_ (hK_ B0.out) N0.out) N0.out) k_ hk_), (Kd.freshB (g := g1) (o := .cells #[.int .i64 t2, .int .i64 t3] 27 (0, 0)) (bP_ (bP_ (hK_ B1.out))) k_ hk_)⟩)) (below_size hC_)); replace P1 := a_ (Kd.N_elder' (by (with_reducible repeat (first | apply Kd.N_alloc | apply Kd.N_drewN | apply Kd.N_drew)); exact (Kd.N_mono (nF_ (nF_ (Kd.N_mono P1.out (fun k_ hk => (⟨hk, hk.2⟩ : _ ∧ k_ ≠ g1))))) (fun _ h_ => h_.1))) (Kd.N_base ho0) hb); replace P0 := a_ (Kd.R_below (by (with_reducible repeat (first | apply Kd.R_alloc | apply Kd.R_drewN | apply Kd.R_drew)); exact (Kd.R_mono (rF_ (rF_ (Kd.R_types P0.out B1.out (by decide)))) (fun _ h_ => h_.1))) hb); replace P2 := a_ (Kd.N_elder' (by (with_reducible repeat (first | apply Kd.N_alloc | apply Kd.N_drewN | apply Kd.N_drew)); exact (Kd.N_mono (nF_ (nF_ (Kd.N_mono P2.out (fun k_ hk => (⟨hk, hk.2⟩ : _ ∧ k_ ≠ g1))))) (fun _ h_ => h_.1))) (Kd.N_base ho0) hb); replace P3 := a_ (Kd.R_below (by (with_reducible repeat (first | apply Kd.R_alloc | apply Kd.R_drewN | apply Kd.R_drew)); exact (Kd.R_mono (rF_ (rF_ (Kd.R_types P3.out B1.out (by decide)))) (fun _ h_ => h_.1))) hb); replace B0 := a_ (blk_below (g := g0) (o := .cells #[.int .i64 t0, .int .i64 t1] 27 (0, 0)) (by (with_reducible repeat (first | refine blk_drewN ?_ _ | refine blk_drew ?_ | refine blk_alloc ?_ _)); exact (bF_ (bF_ (hK_ B0.out) N0.out) N0.out)) hb); replace B1 := a_ (blk_below (g := g1) (o := .cells #[.int .i64 t2, .int .i64 t3] 27 (0, 0)) (by (with_reducible repeat (first | refine blk_drewN ?_ _ | refine blk_drew ?_ | refine blk_alloc ?_ _)); exact (bP_ (bP_ (hK_ B1.out)))) hb); replace HB := a_ (below_step hC_ hb); (try clear hb); (try clear hb2); (try clear hk); (try clear hi); (try clear ho0)) | ((with_reducible refine gate_dst (N := 25) rfl ?_); refine Kd.R_lit (Kd.int .i64) _ 3 ?hg (N := 25) ?hd (xs := ([2, 1, 2, 0, 1] : List Int)) (inner := [.int .i64 2, .int .i64 1, .int .i64 2, .int .i64 0, .int .i64 1]) (ok := fun _ => True) (okp := fun _ => True) ?hr ?hp (fun _ hk => hk) trivial (Below.refl _ _) (Nat.le_refl _) (by simp) ?_; (case hd => rfl); (case hg => rfl); (case hr => first | (go_simp; done) | (go_simp; rfl)); (case hp => exact (Reps.one (show Kd.M (Kd.int .i64) _ _ _ 2 [.int .i64 2] from rfl) (Reps.one (show Kd.M (Kd.int .i64) _ _ _ 1 [.int .i64 1] from rfl) (Reps.one (show Kd.M (Kd.int .i64) _ _ _ 2 [.int .i64 2] from rfl) (Reps.one (show Kd.M (Kd.int .i64) _ _ _ 0 [.int .i64 0] from rfl) (Reps.one (show Kd.M (Kd.int .i64) _ _ _ 1 [.int .i64 1] from rfl) (Reps.none _ _))))))); intro v5 w9 ho43 hb hg_ hnew_; clear hg_ hnew_; (first | rw [← Y2.out] at ho43 | (simp only [Int.reduceToNat] at ho43; rw [← Y2.out] at ho43)); replace P1 := a_ (Kd.N_elder' (hN_ P1.out) (Kd.R_base ho43) hb); replace P2 := a_ (Kd.N_elder' (hN_ P2.out) (Kd.R_base ho43) hb); replace P4 := a_ (Kd.N_elder' (hN_ P4.out) (Kd.R_base ho43) hb); have P5 := a_ (Kd.R_lower (Kd.R_new' (Kd.R_new' ho43 (Kd.R_lt (hR_ P0.out))) (Kd.R_lt (hR_ P3.out))) (below_size hC_)); replace P0 := a_ (Kd.R_elder' (hR_ P0.out) (Kd.R_base ho43) hb); replace P3 := a_ (Kd.R_elder' (hR_ P3.out) (Kd.R_base ho43) hb); replace B0 := a_ (bB_ B0.out hb); replace B1 := a_ (bB_ B1.out hb); replace HB := a_ (below_step hC_ hb); clear hb ho43; obtain ⟨a4, o4, e4⟩ := Kd.N_slice P4.out; subst e4; obtain ⟨a5, o5, e5⟩ := Kd.R_slice P5.out; subst e5) | ((with_reducible refine gate_callee (f := 6) rfl ?_); refine goesL_ (some 26) rfl rfl Tryd.func6 (by kernel_rfl) rfl #[.slice a4 t14.length o4, .slice a5 y2.length o5] rfl hL_ ?_; (with_reducible refine (top_Next.calls k _ _ t14 _ _ y2 t8 t9 t20 _ ?s1 ?s2 ?s3 ?s4 A6.out (by first | exact hG | exact GOK.below hG hC_)).mono ?_); (case s1 => repeat (first | exact (Kd.N_reads' P4.out).2.2 | (with_reducible refine Kd.C_alloc ?_ _) | (with_reducible refine Kd.C_drewN ?_ _) | (with_reducible refine Kd.C_drew ?_))); (case s2 => exact (Kd.N_reads' P4.out).2.1); (case s3 => exact cC_ (Kd.R_reads' P5.out).2.2); (case s4 => exact (Kd.R_reads' P5.out).2.1); rintro e w46 ⟨rfl, hb⟩; refine ⟨_, rfl, ?_⟩; replace P1 := a_ (Kd.N_below (hN_ P1.out) hb); replace P0 := a_ (Kd.R_below (hR_ P0.out) hb); replace P2 := a_ (Kd.N_below (hN_ P2.out) hb); replace P3 := a_ (Kd.R_below (hR_ P3.out) hb); replace P4 := a_ (Kd.N_below (hN_ P4.out) hb); replace P5 := a_ (Kd.R_below (hR_ P5.out) hb); replace B0 := a_ (bB_ B0.out hb); replace B1 := a_ (bB_ B1.out hb); replace HB := a_ (below_step hC_ hb); (try clear hb); (try clear hb2); (try clear hk); (try clear hi)) | ((with_reducible refine gate_dst (N := 5) rfl ?_); refine boxE_ 5 #[.int .i64 0, .int .i64 0] 27 ?_; intro g2 hg w47 hbox hb; replace P1 := a_ (Kd.N_below (Kd.N_elderB (hN_ P1.out) g2 (Nat.le_of_eq hg.symm)) hb); replace P0 := a_ (Kd.R_below (hR_ P0.out) hb); replace P2 := a_ (Kd.N_below (Kd.N_elderB (hN_ P2.out) g2 (Nat.le_of_eq hg.symm)) hb); replace P3 := a_ (Kd.R_below (hR_ P3.out) hb); replace P4 := a_ (Kd.N_below (Kd.N_elderB (hN_ P4.out) g2 (Nat.le_of_eq hg.symm)) hb); replace P5 := a_ (Kd.R_below (hR_ P5.out) hb); have B2 := a_ (hbox); have E2 := a_ ((gE_ hg : w.heap.size ≤ g2)); replace HB := a_ (below_step hC_ hb); have N1 := a_ ((bL_ B0.out hg : g0 ≠ g2)); have N7 := a_ ((bG_ B0.out hg : g2 ≠ g0)); replace B0 := a_ (bB_ B0.out hb); have N2 := a_ ((bL_ B1.out hg : g1 ≠ g2)); have N8 := a_ ((bG_ B1.out hg : g2 ≠ g1)); replace B1 := a_ (bB_ B1.out hb); clear hb hbox hg; have m1 := N7.out; have n1 := N1.out; have m2 := N8.out; have n2 := N2.out; obtain ⟨z4, z5, f4, f5⟩ := bx2_ B2.out) | ((with_reducible refine gate_callee (f := 19) rfl ?_); refine goesL_ (some 30) rfl rfl Tryd.func19 (by kernel_rfl) rfl #[] rfl hL_ ?_; (with_reducible refine (sleuthlaw18_some.calls  t10 _ A7.out).mono ?_); rintro e w51 ⟨v6, rfl, ho0, hb⟩; refine ⟨_, rfl, ?_⟩; have P6 := a_ (Kd.N_lower (Kd.N_mono (ok' := fun k_ => some k_ ≠ (.slice a0 t17.length o0 : Value).ownBlock ∧ some k_ ≠ (.slice a1 y0.length o1 : Value).ownBlock ∧ some k_ ≠ (.slice a2 t15.length o2 : Value).ownBlock ∧ some k_ ≠ (.slice a3 y1.length o3 : Value).ownBlock ∧ some k_ ≠ (.slice a4 t14.length o4 : Value).ownBlock ∧ some k_ ≠ (.slice a5 y2.length o5 : Value).ownBlock ∧ k_ ≠ g0 ∧ k_ ≠ g1 ∧ k_ ≠ g2) ho0 (fun k_ hk_ => ⟨(Kd.fresh' (Kd.N_lt (by (with_reducible repeat (first | apply Kd.N_alloc | apply Kd.N_drewN | apply Kd.N_drew)); exact (Kd.N_mono (nF_ (nF_ (Kd.N_mono P1.out (fun k_ hk => (⟨hk, hk.2⟩ : _ ∧ k_ ≠ g2))))) (fun _ h_ => h_.1)))) k_ hk_), (Kd.fresh' (Kd.R_lt (by (with_reducible repeat (first | apply Kd.R_alloc | apply Kd.R_drewN | apply Kd.R_drew)); exact (Kd.R_mono (rF_ (rF_ (Kd.R_types P0.out B2.out (by decide)))) (fun _ h_ => h_.1)))) k_ hk_), (Kd.fresh' (Kd.N_lt (by (with_reducible repeat (first | apply Kd.N_alloc | apply Kd.N_drewN | apply Kd.N_drew)); exact (Kd.N_mono (nF_ (nF_ (Kd.N_mono P2.out (fun k_ hk => (⟨hk, hk.2⟩ : _ ∧ k_ ≠ g2))))) (fun _ h_ => h_.1)))) k_ hk_), (Kd.fresh' (Kd.R_lt (by (with_reducible repeat (first | apply Kd.R_alloc | apply Kd.R_drewN | apply Kd.R_drew)); exact (Kd.R_mono (rF_ (rF_ (Kd.R_types P3.out B2.out (by decide)))) (fun _ h_ => h_.1)))) k_ hk_), (Kd.fresh' (Kd.N_lt (by (with_reducible repeat (first | apply Kd.N_alloc | apply Kd.N_drewN | apply Kd.N_drew)); exact (Kd.N_mono (nF_ (nF_ (Kd.N_mono P4.out (fun k_ hk => (⟨hk, hk.2⟩ : _ ∧ k_ ≠ g2))))) (fun _ h_ => h_.1)))) k_ hk_), (Kd.fresh' (Kd.R_lt (by (with_reducible repeat (first | apply Kd.R_alloc | apply Kd.R_drewN | apply Kd.R_drew)); exact (Kd.R_mono (rF_ (rF_ (Kd.R_types P5.out B2.out (by decide)))) (fun _ h_ => h_.1)))) k_ hk_), (Kd.freshB (g := g0) (o := .cells #[.int .i64 t0, .int .i64 t1] 27 (0, 0)) (bF_ (bF_ (hK_ B0.out) N1.out) N1.out) k_ hk_), (Kd.freshB (g := g1) (o := .cells #[.int .i64 t2, .int .i64 t3] 27 (0, 0)) (bF_ (bF_ (hK_ B1.out) N2.out) N2.out) k_ hk_), (Kd.freshB (g := g2) (o := .cells #[.int .i64 t8, .int .i64 t9] 27 (0, 0)) (bP_ (bP_ (hK_ B2.out))) k_ hk_)⟩)) (below_size hC_)); replace P1 := a_ (Kd.N_elder' (by (with_reducible repeat (first | apply Kd.N_alloc | apply Kd.N_drewN | apply Kd.N_drew)); exact (Kd.N_mono (nF_ (nF_ (Kd.N_mono P1.out (fun k_ hk => (⟨hk, hk.2⟩ : _ ∧ k_ ≠ g2))))) (fun _ h_ => h_.1))) (Kd.N_base ho0) hb); replace P0 := a_ (Kd.R_below (by (with_reducible repeat (first | apply Kd.R_alloc | apply Kd.R_drewN | apply Kd.R_drew)); exact (Kd.R_mono (rF_ (rF_ (Kd.R_types P0.out B2.out (by decide)))) (fun _ h_ => h_.1))) hb); replace P2 := a_ (Kd.N_elder' (by (with_reducible repeat (first | apply Kd.N_alloc | apply Kd.N_drewN | apply Kd.N_drew)); exact (Kd.N_mono (nF_ (nF_ (Kd.N_mono P2.out (fun k_ hk => (⟨hk, hk.2⟩ : _ ∧ k_ ≠ g2))))) (fun _ h_ => h_.1))) (Kd.N_base ho0) hb); replace P3 := a_ (Kd.R_below (by (with_reducible repeat (first | apply Kd.R_alloc | apply Kd.R_drewN | apply Kd.R_drew)); exact (Kd.R_mono (rF_ (rF_ (Kd.R_types P3.out B2.out (by decide)))) (fun _ h_ => h_.1))) hb); replace P4 := a_ (Kd.N_elder' (by (with_reducible repeat (first | apply Kd.N_alloc | apply Kd.N_drewN | apply Kd.N_drew)); exact (Kd.N_mono (nF_ (nF_ (Kd.N_mono P4.out (fun k_ hk => (⟨hk, hk.2⟩ : _ ∧ k_ ≠ g2))))) (fun _ h_ => h_.1))) (Kd.N_base ho0) hb); replace P5 := a_ (Kd.R_below (by (with_reducible repeat (first | apply Kd.R_alloc | apply Kd.R_drewN | apply Kd.R_drew)); exact (Kd.R_mono (rF_ (rF_ (Kd.R_types P5.out B2.out (by decide)))) (fun _ h_ => h_.1))) hb); replace B0 := a_ (blk_below (g := g0) (o := .cells #[.int .i64 t0, .int .i64 t1] 27 (0, 0)) (by (with_reducible repeat (first | refine blk_drewN ?_ _ | refine blk_drew ?_ | refine blk_alloc ?_ _)); exact (bF_ (bF_ (hK_ B0.out) N1.out) N1.out)) hb); replace B1 := a_ (blk_below (g := g1) (o := .cells #[.int .i64 t2, .int .i64 t3] 27 (0, 0)) (by (with_reducible repeat (first | refine blk_drewN ?_ _ | refine blk_drew ?_ | refine blk_alloc ?_ _)); exact (bF_ (bF_ (hK_ B1.out) N2.out) N2.out)) hb); replace B2 := a_ (blk_below (g := g2) (o := .cells #[.int .i64 t8, .int .i64 t9] 27 (0, 0)) (by (with_reducible repeat (first | refine blk_drewN ?_ _ | refine blk_drew ?_ | refine blk_alloc ?_ _)); exact (bP_ (bP_ (hK_ B2.out)))) hb); replace HB := a_ (below_step hC_ hb); (try clear hb); (try clear hb2); (try clear hk); (try clear hi); (try clear ho0)) | ((with_reducible refine gate_dst (N := 31) rfl ?_); refine Kd.R_lit (Kd.int .i64) _ 3 ?hg (N := 31) ?hd (xs := ([2, 3, 1, 0, 0] : List Int)) (inner := [.int .i64 2, .int .i64 3, .int .i64 1, .int .i64 0, .int .i64 0]) (ok := fun _ => True) (okp := fun _ => True) ?hr ?hp (fun _ hk => hk) trivial (Below.refl _ _) (Nat.le_refl _) (by simp) ?_; (case hd => rfl); (case hg => rfl); (case hr => first | (go_simp; done) | (go_simp; rfl)); (case hp => exact (Reps.one (show Kd.M (Kd.int .i64) _ _ _ 2 [.int .i64 2] from rfl) (Reps.one (show Kd.M (Kd.int .i64) _ _ _ 3 [.int .i64 3] from rfl) (Reps.one (show Kd.M (Kd.int .i64) _ _ _ 1 [.int .i64 1] from rfl) (Reps.one (show Kd.M (Kd.int .i64) _ _ _ 0 [.int .i64 0] from rfl) (Reps.one (show Kd.M (Kd.int .i64) _ _ _ 0 [.int .i64 0] from rfl) (Reps.none _ _))))))); intro v7 w52 ho53 hb hg_ hnew_; clear hg_ hnew_; (first | rw [← Y3.out] at ho53 | (simp only [Int.reduceToNat] at ho53; rw [← Y3.out] at ho53)); replace P1 := a_ (Kd.N_elder' (hN_ P1.out) (Kd.R_base ho53) hb); replace P2 := a_ (Kd.N_elder' (hN_ P2.out) (Kd.R_base ho53) hb); replace P4 := a_ (Kd.N_elder' (hN_ P4.out) (Kd.R_base ho53) hb); replace P6 := a_ (Kd.N_elder' (hN_ P6.out) (Kd.R_base ho53) hb); have P7 := a_ (Kd.R_lower (Kd.R_new' (Kd.R_new' (Kd.R_new' ho53 (Kd.R_lt (hR_ P0.out))) (Kd.R_lt (hR_ P3.out))) (Kd.R_lt (hR_ P5.out))) (below_size hC_)); replace P0 := a_ (Kd.R_elder' (hR_ P0.out) (Kd.R_base ho53) hb); replace P3 := a_ (Kd.R_elder' (hR_ P3.out) (Kd.R_base ho53) hb); replace P5 := a_ (Kd.R_elder' (hR_ P5.out) (Kd.R_base ho53) hb); replace B0 := a_ (bB_ B0.out hb); replace B1 := a_ (bB_ B1.out hb); replace B2 := a_ (bB_ B2.out hb); replace HB := a_ (below_step hC_ hb); clear hb ho53; obtain ⟨a6, o6, e6⟩ := Kd.N_slice P6.out; subst e6; obtain ⟨a7, o7, e7⟩ := Kd.R_slice P7.out; subst e7) | ((with_reducible refine gate_callee (f := 6) rfl ?_); refine goesL_ (some 32) rfl rfl Tryd.func6 (by kernel_rfl) rfl #[.slice a6 t10.length o6, .slice a7 y3.length o7] rfl hL_ ?_; (with_reducible refine (top_Next.calls k _ _ t10 _ _ y3 t12 t13 t21 _ ?s1 ?s2 ?s3 ?s4 A8.out (by first | exact hG | exact GOK.below hG hC_)).mono ?_); (case s1 => repeat (first | exact (Kd.N_reads' P6.out).2.2 | (with_reducible refine Kd.C_alloc ?_ _) | (with_reducible refine Kd.C_drewN ?_ _) | (with_reducible refine Kd.C_drew ?_))); (case s2 => exact (Kd.N_reads' P6.out).2.1); (case s3 => exact cC_ (Kd.R_reads' P7.out).2.2); (case s4 => exact (Kd.R_reads' P7.out).2.1); rintro e w56 ⟨rfl, hb⟩; refine ⟨_, rfl, ?_⟩; replace P1 := a_ (Kd.N_below (hN_ P1.out) hb); replace P0 := a_ (Kd.R_below (hR_ P0.out) hb); replace P2 := a_ (Kd.N_below (hN_ P2.out) hb); replace P3 := a_ (Kd.R_below (hR_ P3.out) hb); replace P4 := a_ (Kd.N_below (hN_ P4.out) hb); replace P5 := a_ (Kd.R_below (hR_ P5.out) hb); replace P6 := a_ (Kd.N_below (hN_ P6.out) hb); replace P7 := a_ (Kd.R_below (hR_ P7.out) hb); replace B0 := a_ (bB_ B0.out hb); replace B1 := a_ (bB_ B1.out hb); replace B2 := a_ (bB_ B2.out hb); replace HB := a_ (below_step hC_ hb); (try clear hb); (try clear hb2); (try clear hk); (try clear hi)) | ((with_reducible refine gate_dst (N := 7) rfl ?_); refine boxE_ 7 #[.int .i64 0, .int .i64 0] 27 ?_; intro g3 hg w57 hbox hb; replace P1 := a_ (Kd.N_below (Kd.N_elderB (hN_ P1.out) g3 (Nat.le_of_eq hg.symm)) hb); replace P0 := a_ (Kd.R_below (hR_ P0.out) hb); replace P2 := a_ (Kd.N_below (Kd.N_elderB (hN_ P2.out) g3 (Nat.le_of_eq hg.symm)) hb); replace P3 := a_ (Kd.R_below (hR_ P3.out) hb); replace P4 := a_ (Kd.N_below (Kd.N_elderB (hN_ P4.out) g3 (Nat.le_of_eq hg.symm)) hb); replace P5 := a_ (Kd.R_below (hR_ P5.out) hb); replace P6 := a_ (Kd.N_below (Kd.N_elderB (hN_ P6.out) g3 (Nat.le_of_eq hg.symm)) hb); replace P7 := a_ (Kd.R_below (hR_ P7.out) hb); have B3 := a_ (hbox); have E3 := a_ ((gE_ hg : w.heap.size ≤ g3)); replace HB := a_ (below_step hC_ hb); have N3 := a_ ((bL_ B0.out hg : g0 ≠ g3)); have N9 := a_ ((bG_ B0.out hg : g3 ≠ g0)); replace B0 := a_ (bB_ B0.out hb); have N4 := a_ ((bL_ B1.out hg : g1 ≠ g3)); have N10 := a_ ((bG_ B1.out hg : g3 ≠ g1)); replace B1 := a_ (bB_ B1.out hb); have N5 := a_ ((bL_ B2.out hg : g2 ≠ g3)); have N11 := a_ ((bG_ B2.out hg : g3 ≠ g2)); replace B2 := a_ (bB_ B2.out hb); clear hb hbox hg; have m3 := N9.out; have n3 := N3.out; have m4 := N10.out; have n4 := N4.out; have m5 := N11.out; have n5 := N5.out; obtain ⟨z6, z7, f6, f7⟩ := bx2_ B3.out) | ((with_reducible refine gate_callee (f := 19) rfl ?_); refine goesL_ (some 36) rfl rfl Tryd.func19 (by kernel_rfl) rfl #[] rfl hL_ ?_; (with_reducible refine (sleuthlaw18_some.calls  t11 _ A9.out).mono ?_); rintro e w62 ⟨v8, rfl, ho0, hb⟩; refine ⟨_, rfl, ?_⟩; have P8 := a_ (Kd.N_lower (Kd.N_mono (ok' := fun k_ => some k_ ≠ (.slice a0 t17.length o0 : Value).ownBlock ∧ some k_ ≠ (.slice a1 y0.length o1 : Value).ownBlock ∧ some k_ ≠ (.slice a2 t15.length o2 : Value).ownBlock ∧ some k_ ≠ (.slice a3 y1.length o3 : Value).ownBlock ∧ some k_ ≠ (.slice a4 t14.length o4 : Value).ownBlock ∧ some k_ ≠ (.slice a5 y2.length o5 : Value).ownBlock ∧ some k_ ≠ (.slice a6 t10.length o6 : Value).ownBlock ∧ some k_ ≠ (.slice a7 y3.length o7 : Value).ownBlock ∧ k_ ≠ g0 ∧ k_ ≠ g1 ∧ k_ ≠ g2 ∧ k_ ≠ g3) ho0 (fun k_ hk_ => ⟨(Kd.fresh' (Kd.N_lt (by (with_reducible repeat (first | apply Kd.N_alloc | apply Kd.N_drewN | apply Kd.N_drew)); exact (Kd.N_mono (nF_ (nF_ (Kd.N_mono P1.out (fun k_ hk => (⟨hk, hk.2⟩ : _ ∧ k_ ≠ g3))))) (fun _ h_ => h_.1)))) k_ hk_), (Kd.fresh' (Kd.R_lt (by (with_reducible repeat (first | apply Kd.R_alloc | apply Kd.R_drewN | apply Kd.R_drew)); exact (Kd.R_mono (rF_ (rF_ (Kd.R_types P0.out B3.out (by decide)))) (fun _ h_ => h_.1)))) k_ hk_), (Kd.fresh' (Kd.N_lt (by (with_reducible repeat (first | apply Kd.N_alloc | apply Kd.N_drewN | apply Kd.N_drew)); exact (Kd.N_mono (nF_ (nF_ (Kd.N_mono P2.out (fun k_ hk => (⟨hk, hk.2⟩ : _ ∧ k_ ≠ g3))))) (fun _ h_ => h_.1)))) k_ hk_), (Kd.fresh' (Kd.R_lt (by (with_reducible repeat (first | apply Kd.R_alloc | apply Kd.R_drewN | apply Kd.R_drew)); exact (Kd.R_mono (rF_ (rF_ (Kd.R_types P3.out B3.out (by decide)))) (fun _ h_ => h_.1)))) k_ hk_), (Kd.fresh' (Kd.N_lt (by (with_reducible repeat (first | apply Kd.N_alloc | apply Kd.N_drewN | apply Kd.N_drew)); exact (Kd.N_mono (nF_ (nF_ (Kd.N_mono P4.out (fun k_ hk => (⟨hk, hk.2⟩ : _ ∧ k_ ≠ g3))))) (fun _ h_ => h_.1)))) k_ hk_), (Kd.fresh' (Kd.R_lt (by (with_reducible repeat (first | apply Kd.R_alloc | apply Kd.R_drewN | apply Kd.R_drew)); exact (Kd.R_mono (rF_ (rF_ (Kd.R_types P5.out B3.out (by decide)))) (fun _ h_ => h_.1)))) k_ hk_), (Kd.fresh' (Kd.N_lt (by (with_reducible repeat (first | apply Kd.N_alloc | apply Kd.N_drewN | apply Kd.N_drew)); exact (Kd.N_mono (nF_ (nF_ (Kd.N_mono P6.out (fun k_ hk => (⟨hk, hk.2⟩ : _ ∧ k_ ≠ g3))))) (fun _ h_ => h_.1)))) k_ hk_), (Kd.fresh' (Kd.R_lt (by (with_reducible repeat (first | apply Kd.R_alloc | apply Kd.R_drewN | apply Kd.R_drew)); exact (Kd.R_mono (rF_ (rF_ (Kd.R_types P7.out B3.out (by decide)))) (fun _ h_ => h_.1)))) k_ hk_), (Kd.freshB (g := g0) (o := .cells #[.int .i64 t0, .int .i64 t1] 27 (0, 0)) (bF_ (bF_ (hK_ B0.out) N3.out) N3.out) k_ hk_), (Kd.freshB (g := g1) (o := .cells #[.int .i64 t2, .int .i64 t3] 27 (0, 0)) (bF_ (bF_ (hK_ B1.out) N4.out) N4.out) k_ hk_), (Kd.freshB (g := g2) (o := .cells #[.int .i64 t8, .int .i64 t9] 27 (0, 0)) (bF_ (bF_ (hK_ B2.out) N5.out) N5.out) k_ hk_), (Kd.freshB (g := g3) (o := .cells #[.int .i64 t12, .int .i64 t13] 27 (0, 0)) (bP_ (bP_ (hK_ B3.out))) k_ hk_)⟩)) (below_size hC_)); replace P1 := a_ (Kd.N_elder' (by (with_reducible repeat (first | apply Kd.N_alloc | apply Kd.N_drewN | apply Kd.N_drew)); exact (Kd.N_mono (nF_ (nF_ (Kd.N_mono P1.out (fun k_ hk => (⟨hk, hk.2⟩ : _ ∧ k_ ≠ g3))))) (fun _ h_ => h_.1))) (Kd.N_base ho0) hb); replace P0 := a_ (Kd.R_below (by (with_reducible repeat (first | apply Kd.R_alloc | apply Kd.R_drewN | apply Kd.R_drew)); exact (Kd.R_mono (rF_ (rF_ (Kd.R_types P0.out B3.out (by decide)))) (fun _ h_ => h_.1))) hb); replace P2 := a_ (Kd.N_elder' (by (with_reducible repeat (first | apply Kd.N_alloc | apply Kd.N_drewN | apply Kd.N_drew)); exact (Kd.N_mono (nF_ (nF_ (Kd.N_mono P2.out (fun k_ hk => (⟨hk, hk.2⟩ : _ ∧ k_ ≠ g3))))) (fun _ h_ => h_.1))) (Kd.N_base ho0) hb); replace P3 := a_ (Kd.R_below (by (with_reducible repeat (first | apply Kd.R_alloc | apply Kd.R_drewN | apply Kd.R_drew)); exact (Kd.R_mono (rF_ (rF_ (Kd.R_types P3.out B3.out (by decide)))) (fun _ h_ => h_.1))) hb); replace P4 := a_ (Kd.N_elder' (by (with_reducible repeat (first | apply Kd.N_alloc | apply Kd.N_drewN | apply Kd.N_drew)); exact (Kd.N_mono (nF_ (nF_ (Kd.N_mono P4.out (fun k_ hk => (⟨hk, hk.2⟩ : _ ∧ k_ ≠ g3))))) (fun _ h_ => h_.1))) (Kd.N_base ho0) hb); replace P5 := a_ (Kd.R_below (by (with_reducible repeat (first | apply Kd.R_alloc | apply Kd.R_drewN | apply Kd.R_drew)); exact (Kd.R_mono (rF_ (rF_ (Kd.R_types P5.out B3.out (by decide)))) (fun _ h_ => h_.1))) hb); replace P6 := a_ (Kd.N_elder' (by (with_reducible repeat (first | apply Kd.N_alloc | apply Kd.N_drewN | apply Kd.N_drew)); exact (Kd.N_mono (nF_ (nF_ (Kd.N_mono P6.out (fun k_ hk => (⟨hk, hk.2⟩ : _ ∧ k_ ≠ g3))))) (fun _ h_ => h_.1))) (Kd.N_base ho0) hb); replace P7 := a_ (Kd.R_below (by (with_reducible repeat (first | apply Kd.R_alloc | apply Kd.R_drewN | apply Kd.R_drew)); exact (Kd.R_mono (rF_ (rF_ (Kd.R_types P7.out B3.out (by decide)))) (fun _ h_ => h_.1))) hb); replace B0 := a_ (blk_below (g := g0) (o := .cells #[.int .i64 t0, .int .i64 t1] 27 (0, 0)) (by (with_reducible repeat (first | refine blk_drewN ?_ _ | refine blk_drew ?_ | refine blk_alloc ?_ _)); exact (bF_ (bF_ (hK_ B0.out) N3.out) N3.out)) hb); replace B1 := a_ (blk_below (g := g1) (o := .cells #[.int .i64 t2, .int .i64 t3] 27 (0, 0)) (by (with_reducible repeat (first | refine blk_drewN ?_ _ | refine blk_drew ?_ | refine blk_alloc ?_ _)); exact (bF_ (bF_ (hK_ B1.out) N4.out) N4.out)) hb); replace B2 := a_ (blk_below (g := g2) (o := .cells #[.int .i64 t8, .int .i64 t9] 27 (0, 0)) (by (with_reducible repeat (first | refine blk_drewN ?_ _ | refine blk_drew ?_ | refine blk_alloc ?_ _)); exact (bF_ (bF_ (hK_ B2.out) N5.out) N5.out)) hb); replace B3 := a_ (blk_below (g := g3) (o := .cells #[.int .i64 t12, .int .i64 t13] 27 (0, 0)) (by (with_reducible repeat (first | refine blk_drewN ?_ _ | refine blk_drew ?_ | refine blk_alloc ?_ _)); exact (bP_ (bP_ (hK_ B3.out)))) hb); replace HB := a_ (below_step hC_ hb); (try clear hb); (try clear hb2); (try clear hk); (try clear hi); (try clear ho0); obtain ⟨a8, o8, e8⟩ := Kd.N_slice P8.out; subst e8) | ((with_reducible refine gate_callee (f := 6) rfl ?_); refine goesL_ _ rfl rfl Tryd.func6 (by kernel_rfl) rfl #[.slice a8 t11.length o8, .slice none 0 0] rfl hL_ ?_; (refine (top_Next.calls k _ _ t11 _ _ ([] : List Int) t23 t24 t22 _ ?s1 ?s2 ?s3 ?s4 A10.out (by first | exact hG | exact GOK.below hG hC_)).mono ?_); (case s1 => repeat (first | exact (Kd.N_reads' P8.out).2.2 | (with_reducible refine Kd.C_alloc ?_ _) | (with_reducible refine Kd.C_drewN ?_ _) | (with_reducible refine Kd.C_drew ?_))); (case s2 => exact (Kd.N_reads' P8.out).2.1); (case s3 => exact Kd.C_nil _ _); (case s4 => exact Nat.le_refl _); rintro e w64 ⟨rfl, hb⟩; refine ⟨_, rfl, ?_⟩; replace P1 := a_ (Kd.N_below (hN_ P1.out) hb); replace P0 := a_ (Kd.R_below (hR_ P0.out) hb); replace P2 := a_ (Kd.N_below (hN_ P2.out) hb); replace P3 := a_ (Kd.R_below (hR_ P3.out) hb); replace P4 := a_ (Kd.N_below (hN_ P4.out) hb); replace P5 := a_ (Kd.R_below (hR_ P5.out) hb); replace P6 := a_ (Kd.N_below (hN_ P6.out) hb); replace P7 := a_ (Kd.R_below (hR_ P7.out) hb); replace P8 := a_ (Kd.N_below (hN_ P8.out) hb); replace B0 := a_ (bB_ B0.out hb); replace B1 := a_ (bB_ B1.out hb); replace B2 := a_ (bB_ B2.out hb); replace B3 := a_ (bB_ B3.out hb); replace HB := a_ (below_step hC_ hb); (try clear hb); (try clear hb2); (try clear hk); (try clear hi)) | ((with_reducible refine gate_dst (N := 9) rfl ?_); refine boxE_ 9 #[.int .i64 0, .int .i64 0] 27 ?_; intro g4 hg w65 hbox hb; replace P1 := a_ (Kd.N_below (Kd.N_elderB (hN_ P1.out) g4 (Nat.le_of_eq hg.symm)) hb); replace P0 := a_ (Kd.R_below (hR_ P0.out) hb); replace P2 := a_ (Kd.N_below (Kd.N_elderB (hN_ P2.out) g4 (Nat.le_of_eq hg.symm)) hb); replace P3 := a_ (Kd.R_below (hR_ P3.out) hb); replace P4 := a_ (Kd.N_below (Kd.N_elderB (hN_ P4.out) g4 (Nat.le_of_eq hg.symm)) hb); replace P5 := a_ (Kd.R_below (hR_ P5.out) hb); replace P6 := a_ (Kd.N_below (Kd.N_elderB (hN_ P6.out) g4 (Nat.le_of_eq hg.symm)) hb); replace P7 := a_ (Kd.R_below (hR_ P7.out) hb); replace P8 := a_ (Kd.N_below (Kd.N_elderB (hN_ P8.out) g4 (Nat.le_of_eq hg.symm)) hb); have B4 := a_ (hbox); have E4 := a_ ((gE_ hg : w.heap.size ≤ g4)); replace HB := a_ (below_step hC_ hb); have N12 := a_ ((bL_ B0.out hg : g0 ≠ g4)); have N13 := a_ ((bG_ B0.out hg : g4 ≠ g0)); replace B0 := a_ (bB_ B0.out hb); have N14 := a_ ((bL_ B1.out hg : g1 ≠ g4)); have N15 := a_ ((bG_ B1.out hg : g4 ≠ g1)); replace B1 := a_ (bB_ B1.out hb); have N16 := a_ ((bL_ B2.out hg : g2 ≠ g4)); have N17 := a_ ((bG_ B2.out hg : g4 ≠ g2)); replace B2 := a_ (bB_ B2.out hb); have N18 := a_ ((bL_ B3.out hg : g3 ≠ g4)); have N19 := a_ ((bG_ B3.out hg : g4 ≠ g3)); replace B3 := a_ (bB_ B3.out hb); clear hb hbox hg; have m6 := N13.out; have n6 := N12.out; have m7 := N15.out; have n7 := N14.out; have m8 := N17.out; have n8 := N16.out; have m9 := N19.out; have n9 := N18.out; obtain ⟨z8, z9, f8, f9⟩ := bx2_ B4.out; obtain ⟨z10, z11, f10, f11⟩ := bx2_ B0.out) | (go_at_call 8; (with_reducible refine (sleuthlaw0_Num.calls t18 t4 _ A12.out).mono ?_); rintro e w' ⟨rfl, ⟨nd, rfl⟩⟩; obtain ⟨z12, z13, f12, f13⟩ := bx2_ B1.out) | (go_at_call 8; (with_reducible refine (sleuthlaw0_Num.calls t19 t5 _ A15.out).mono ?_); rintro e w' ⟨rfl, ⟨nd, rfl⟩⟩; obtain ⟨z14, z15, f14, f15⟩ := bx2_ B2.out) | (go_at_call 8; (with_reducible refine (sleuthlaw0_Num.calls t20 t6 _ A18.out).mono ?_); rintro e w' ⟨rfl, ⟨nd, rfl⟩⟩; obtain ⟨z16, z17, f16, f17⟩ := bx2_ B3.out) | (go_at_call 8; (with_reducible refine (sleuthlaw0_Num.calls t21 t7 _ A21.out).mono ?_); rintro e w' ⟨rfl, ⟨nd, rfl⟩⟩) | (go_at_call 8; (with_reducible refine (sleuthlaw0_Num.calls t22 t16 _ A23.out).mono ?_); rintro e w' ⟨rfl, ⟨nd, rfl⟩⟩))
 go_ret
 exact ⟨hV_, hC_⟩
end Go.Proofs.YtifhpkakdlfgnaaDoor.G
end
section
namespace Go.Proofs.YtifhpkakdlfgnaaDoor.G
open Go.RowKit Go.Proofs.YtifhpkakdlfgnaaDoorW.PrintWords Go.Proofs.YtifhpkakdlfgnaaDoorW.PrintLast Go.Proofs.YtifhpkakdlfgnaaDoorW.PrintMore
set_option linter.unusedVariables false
set_option linter.unusedSimpArgs false
def nextT (ns : List Nd) (ms : List Int) : Int × Int × Int := if marksS ns ms = true then ((askT ns ms).1, (askT ns ms).2, 0) else (0, 0, 1800)
theorem next_top_ev (ns : List Nd) (ms : List Int) : Ev (fun k => top_Next.f k ns ms) (nextT ns ms) := by
  unfold top_Next.f nextT
  refine Ev.bind (may_top_ev ns ms) ?_
  by_cases c : marksS ns ms = true
  · simp only [if_pos c]
    exact Ev.bind (ask_ev c) (Ev.now _)
  · simp only [if_neg c]; exact Ev.now _
def topSome : List Nd := [(⟨0, (-1), ([] : List ByteArray), (⟨#[57]⟩ : ByteArray)⟩ : Nd), (⟨1, 0, (([(⟨#[64, 55, 40, 95, 32, 52, 41]⟩ : ByteArray), (⟨#[53]⟩ : ByteArray)] : List ByteArray)), (⟨#[57]⟩ : ByteArray)⟩ : Nd), (⟨2, 0, ([] : List ByteArray), (⟨#[33]⟩ : ByteArray)⟩ : Nd), (⟨1, 1, (([(⟨#[49]⟩ : ByteArray), (⟨#[95]⟩ : ByteArray)] : List ByteArray)), (⟨#[95]⟩ : ByteArray)⟩ : Nd), (⟨1, 2, (([(⟨#[49]⟩ : ByteArray), (⟨#[95]⟩ : ByteArray)] : List ByteArray)), (⟨#[95]⟩ : ByteArray)⟩ : Nd)]
theorem topSome_eq : sleuthlaw18_some.f = some topSome := rfl
theorem topAwake_ev : Ev (fun k => sleuthlaw18_awake.f k) true := by
  unfold sleuthlaw18_awake.f
  simp only [topSome_eq, Option.bind_some]
  refine Ev.bind (next_top_ev topSome [0, 0, 0, 0, 0]) (Ev.bind (next_top_ev topSome [2, 1, 0, 0, 0]) (Ev.bind (next_top_ev topSome [2, 1, 2, 0, 1]) (Ev.bind (next_top_ev topSome [2, 3, 1, 0, 0]) (Ev.bind (next_top_ev topSome []) ?_))))
  have e1 : nextT topSome [0, 0, 0, 0, 0] = (0, 0, 0) := by kernel_rfl
  have e2 : nextT topSome [2, 1, 0, 0, 0] = (0, 2, 0) := by kernel_rfl
  have e3 : nextT topSome [2, 1, 2, 0, 1] = (1, 2, 0) := by kernel_rfl
  have e4 : nextT topSome [2, 3, 1, 0, 0] = (3, 0, 0) := by kernel_rfl
  have e5 : nextT topSome [] = (0, 0, 1800) := by kernel_rfl
  rw [e1, e2, e3, e4, e5]
  simp only [sleuthlaw0_Num.f, Option.bind_some, if_pos, BEq.rfl, Bool.and_self]
  exact Ev.now _
theorem kidsR_l0 (ns : List Nd) (h : mayT ns = true) (a : Int) (h0 : 0 ≤ a) : ∀ (n i : Nat), i + n = ns.length → Ev (fun k => sleuthref12_kids.l0 k ns a (kidsTo ns a i) (i : Int)) (kidsTo ns a ns.length) := by
  have hlen := mayT_len h
  intro n
  induction n with
  | zero =>
    intro i hi
    obtain rfl : i = ns.length := by omega
    refine Ev.step (f := fun _ => some (kidsTo ns a ns.length)) (fun k => ?_) (Ev.now _)
    rw [sleuthref12_kids.l0, if_neg (by omega)]
  | succ n ih =>
    intro i hi
    have hw : wrap64 ((i : Int) + 1) = ((i + 1 : Nat) : Int) := by rw [w64 (by omega) (by omega)]; omega
    have hpa := mayT_pa h i (by omega)
    refine Ev.step (f := fun k => sleuthref12_kids.l0 k ns a (kidsTo ns a (i + 1)) ((i + 1 : Nat) : Int)) (fun k => ?_) (ih (i + 1) (by omega))
    rw [sleuthref12_kids.l0, if_pos (by omega), if_pos (by omega), hw]
    by_cases c : (rn ns (i : Int)).f1 = a
    · have hk := kidsTo_len ns a i
      rw [if_pos c, if_pos (by omega), kidsTo, if_pos ⟨by unfold pa at hpa; omega, c⟩]
    · rw [if_neg c, kidsTo, if_neg (fun hh => c hh.2)]
theorem kidsR_ev {ns : List Nd} (h : mayT ns = true) (a : Int) (h0 : 0 ≤ a) : Ev (fun k => sleuthref12_kids.f k ns a) (kidsTo ns a ns.length) := kidsR_l0 ns h a h0 ns.length 0 (by omega)
theorem drop_rd (l : List Int) (i : Nat) (h : i < l.length) : l.drop i = rd l (i : Int) :: l.drop (i + 1) := by
  rw [List.drop_eq_getElem_cons h]
  congr 1
  show _ = List.getD _ _ _
  rw [Int.toNat_natCast, List.getD_eq_getElem?_getD, List.getElem?_eq_getElem h]; rfl
theorem firstOf_l0 {L ms : List Int} (hL : ∀ x ∈ L, 0 ≤ x ∧ x < (ms.length : Int)) (hl : L.length ≤ 9223372036854775806) (m : Int) : ∀ n i : Nat, i + n = L.length → Ev (fun k => sleuthref12_firstOf.l0 k L ms m (i : Int)) (((L.drop i).find? fun k => rd ms k == m).getD (-1)) := by
  intro n
  induction n with
  | zero =>
    intro i hi
    rw [List.drop_eq_nil_of_le (by omega)]
    refine Ev.step (f := fun _ => some (-1)) (fun k => ?_) (Ev.now _)
    rw [sleuthref12_firstOf.l0, if_neg (by omega)]
  | succ n ih =>
    intro i hi
    have hw : wrap64 ((i : Int) + 1) = ((i + 1 : Nat) : Int) := by rw [w64 (by omega) (by omega)]; omega
    have hm := hL _ (rd_mem i (by omega))
    rw [drop_rd L i (by omega), List.find?_cons]
    by_cases c : rd ms (rd L (i : Int)) = m
    · rw [show (rd ms (rd L (i : Int)) == m) = true from beq_iff_eq.2 c]
      refine Ev.step (f := fun _ => some (rd L (i : Int))) (fun k => ?_) (Ev.now _)
      rw [sleuthref12_firstOf.l0, if_pos (by omega), if_pos (by omega), if_pos hm.1, if_pos hm.2, if_pos c]
    · rw [show (rd ms (rd L (i : Int)) == m) = false from beq_eq_false_iff_ne.2 c]
      refine Ev.step (f := fun k => sleuthref12_firstOf.l0 k L ms m ((i + 1 : Nat) : Int)) (fun k => ?_) (ih (i + 1) (by omega))
      rw [sleuthref12_firstOf.l0, if_pos (by omega), if_pos (by omega), if_pos hm.1, if_pos hm.2, if_neg c, hw]
theorem kids_rng {ns : List Nd} {ms : List Int} (h : marksS ns ms = true) (a : Int) (h0 : 0 ≤ a) : ∀ x ∈ kidsTo ns a ns.length, 0 ≤ x ∧ x < (ms.length : Int) := fun x hx => by
  have h1 := kidsTo_rng ns a x ns.length hx
  obtain ⟨_, hl, _⟩ := marksS_spec h
  omega
theorem kids_max {ns : List Nd} {ms : List Int} (h : marksS ns ms = true) (a : Int) : (kidsTo ns a ns.length).length ≤ 9223372036854775806 := by
  obtain ⟨hm, hl, _⟩ := marksS_spec h
  have hlen := mayT_len hm
  have := kidsTo_len ns a ns.length
  omega
theorem firstOf_ev {ns : List Nd} {ms : List Int} (h : marksS ns ms = true) (a : Int) (h0 : 0 ≤ a) (m : Int) : Ev (fun k => sleuthref12_firstOf.f k (kidsTo ns a ns.length) ms m) ((fstK ns ms a m).getD (-1)) :=
  firstOf_l0 (kids_rng h a h0) (kids_max h a) m (kidsTo ns a ns.length).length 0 (by omega)
theorem verdict_l0 {L ms : List Int} (hL : ∀ x ∈ L, 0 ≤ x ∧ x < (ms.length : Int)) (hl : L.length ≤ 9223372036854775806) (a : Int) : ∀ n i : Nat, i + n = L.length → Ev (fun k => sleuthref12_verdict.l0 k ms a L (i : Int)) (if ((L.drop i).all fun k => rd ms k == 1) = true then (1, a) else (3, 0)) := by
  intro n
  induction n with
  | zero =>
    intro i hi
    rw [List.drop_eq_nil_of_le (by omega)]
    refine Ev.step (f := fun _ => some (1, a)) (fun k => ?_) (Ev.now _)
    rw [sleuthref12_verdict.l0, if_neg (by omega)]
  | succ n ih =>
    intro i hi
    have hw : wrap64 ((i : Int) + 1) = ((i + 1 : Nat) : Int) := by rw [w64 (by omega) (by omega)]; omega
    have hm := hL _ (rd_mem i (by omega))
    rw [drop_rd L i (by omega), List.all_cons]
    by_cases c : rd ms (rd L (i : Int)) = 1
    · rw [show (rd ms (rd L (i : Int)) == 1) = true from beq_iff_eq.2 c, Bool.true_and]
      refine Ev.step (f := fun k => sleuthref12_verdict.l0 k ms a L ((i + 1 : Nat) : Int)) (fun k => ?_) (ih (i + 1) (by omega))
      rw [sleuthref12_verdict.l0, if_pos (by omega), if_pos (by omega), if_pos hm.1, if_pos hm.2, if_pos c, hw]
    · rw [show (rd ms (rd L (i : Int)) == 1) = false from beq_eq_false_iff_ne.2 c, Bool.false_and]
      refine Ev.step (f := fun _ => some (3, 0)) (fun k => ?_) (Ev.now _)
      rw [sleuthref12_verdict.l0, if_pos (by omega), if_pos (by omega), if_pos hm.1, if_pos hm.2, if_neg c]
theorem verdict_ev {ns : List Nd} {ms : List Int} (h : marksS ns ms = true) (a : Int) (h0 : 0 ≤ a) : Ev (fun k => sleuthref12_verdict.f k ns ms a) (bugS ns ms a) := by
  unfold sleuthref12_verdict.f bugS
  refine Ev.bind (kidsR_ev (marksS_spec h).1 a h0) ?_
  exact verdict_l0 (kids_rng h a h0) (kids_max h a) a (kidsTo ns a ns.length).length 0 (by omega)
theorem topDown_l0 {ns : List Nd} {ms : List Int} (h : marksS ns ms = true) : ∀ (n : Nat) (a : Int), 0 ≤ a → a < (ns.length : Int) → (ns.length : Int) ≤ a + n → Ev (fun q => sleuthref12_topDown.l0 q ns ms a) (finT ns ms (downT ns ms n a)) := by
  have hm := (marksS_spec h).1
  intro n
  induction n with
  | zero => intro a h0 h1 h2; omega
  | succ n ih =>
    intro a h0 h1 h2
    refine Ev.step (f := fun k => (sleuthref12_kids.f k ns a).bind fun t347 => ((sleuthref12_firstOf.f k t347 ms 2).bind fun t350 => (if t350 < 0 then ((sleuthref12_kids.f k ns a).bind fun t351 => ((sleuthref12_firstOf.f k t351 ms 0).bind fun t354 => (if t354 ≥ 0 then (some (0, t354)) else ((sleuthref12_verdict.f k ns ms a).bind fun bt355 => (some (bt355.1, bt355.2)))))) else (sleuthref12_topDown.l0 k ns ms t350)))) (fun k => by rw [sleuthref12_topDown.l0]) ?_
    refine Ev.bind (kidsR_ev hm a h0) ?_
    refine Ev.bind (firstOf_ev h a h0 2) ?_
    rw [downT]
    cases hf : fstK ns ms a 2 with
    | some k =>
      have hk := fstK_spec hf
      have hk0 : ¬ (some k).getD (-1) < 0 := by show ¬ k < 0; omega
      simp only [if_neg hk0]
      exact ih k (by omega) hk.2.1 (by omega)
    | none =>
      have hk0 : (none : Option Int).getD (-1) < 0 := by decide
      simp only [if_pos hk0]
      refine Ev.bind (kidsR_ev hm a h0) ?_
      refine Ev.bind (firstOf_ev h a h0 0) ?_
      unfold finT
      cases hg : fstK ns ms a 0 with
      | some k =>
        have hk := fstK_spec hg
        have hk1 : (some k).getD (-1) ≥ 0 := by show k ≥ 0; omega
        simp only [if_pos hk1]
        exact Ev.now _
      | none =>
        have hk1 : ¬ (none : Option Int).getD (-1) ≥ 0 := by decide
        simp only [if_neg hk1]
        exact Ev.bind (verdict_ev h a h0) (Ev.now _)
theorem rooted_eq {ns : List Nd} {ms : List Int} (h : marksS ns ms = true) (h2 : rd ms 0 ≠ 2) : sleuthref12_rooted.f (rd ms 0) = some (askT ns ms) := by
  have hlen := mayT_len (marksS_spec h).1
  have h00 := marks_at h 0 (by omega)
  rw [show ((0 : Nat) : Int) = 0 from rfl] at h00
  unfold sleuthref12_rooted.f askT
  by_cases c0 : rd ms 0 = 0
  · rw [if_pos c0, if_pos c0]
  · rw [if_neg c0, if_neg c0]
    by_cases c1 : rd ms 0 = 1
    · rw [if_pos c1, if_pos c1]
    · rw [if_neg c1, if_neg c1, if_pos (by omega)]
theorem topDown_ev {ns : List Nd} {ms : List Int} (h : marksS ns ms = true) : Ev (fun k => sleuthref12_topDown.f k ns ms) (askT ns ms) := by
  obtain ⟨hm, hl, _⟩ := marksS_spec h
  have hlen := mayT_len hm
  unfold sleuthref12_topDown.f
  have g : (0 : Int) < (ms.length : Int) := by omega
  simp only [if_pos g]
  by_cases c2 : rd ms 0 = 2
  · have e : askT ns ms = finT ns ms (downT ns ms ns.length 0) := by
      unfold askT
      rw [if_neg (by omega), if_neg (by omega), if_neg (by omega)]
    simp only [if_pos c2]
    rw [e]
    exact topDown_l0 h ns.length 0 (by omega) (by omega) (by omega)
  · simp only [if_neg c2, rooted_eq h c2, Option.bind_some]
    exact Ev.now _
end Go.Proofs.YtifhpkakdlfgnaaDoor.G
end
