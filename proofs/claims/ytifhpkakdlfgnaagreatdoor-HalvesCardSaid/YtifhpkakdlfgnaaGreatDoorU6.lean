/- Parts of this proof, one behind the other: G20, G21, G22, G23, G25, G26, G27. -/
import Derived.Test.YtifhpkakdlfgnaaGreatDoorU2
import Derived.Test.YtifhpkakdlfgnaaGreatDoorG0
import Derived.Test.YtifhpkakdlfgnaaGreatDoorU5
section
namespace Go.Proofs.YtifhpkakdlfgnaaGreatDoor.G
open Go.RowKit Go.Proofs.YtifhpkakdlfgnaaGreatDoorW.PrintWords Go.Proofs.YtifhpkakdlfgnaaGreatDoorW.PrintLast Go.Proofs.YtifhpkakdlfgnaaGreatDoorW.PrintMore
set_option maxHeartbeats 8000000
set_option maxRecDepth 100000
attribute [local go_sem] max2_int min2_int max_two min_two max_three min_three max_four min_four   -- for this text's walks alone
set_option linter.unusedVariables false
set_option linter.unusedSimpArgs false

def top_Ask.l0 : Nat → List (S40) → List Int → Int → Int → Bool → Option (Int × Int)
 | 0, _, _, _, _, _ => none
 | k + 1, x0, x1, x5, x6, x7 => if x7 = true then ((top_first.f x0 x1 x6 2).bind fun bt160 => (top_Ask.l0 k x0 x1 x6 bt160.1 bt160.2)) else ((top_first.f x0 x1 x5 0).bind fun bt162 => (if bt162.2 = true then (some (0, bt162.1)) else ((top_Bug.f x0 x1 x5).bind fun bt164 => (some (bt164.1, bt164.2)))))
def top_Ask.f (k : Nat) (l0 : List (S40)) (l1 : List Int) : Option (Int × Int) := if 0 < (l1.length : Int) then (if (rd l1 0) = 0 then (some (0, 0)) else (if (rd l1 0) = 1 then (some (2, 0)) else (if (rd l1 0) = 3 then (some (3, 0)) else ((top_first.f l0 l1 0 2).bind fun bt158 => (top_Ask.l0 k l0 l1 0 bt158.1 bt158.2))))) else (none)
theorem top_Ask.calls (k : Nat) (A0 : Option Addr) (c0 : Nat) (l0 : List (S40)) (A1 : Option Addr) (c1 : Nat) (l1 : List Int) (r1 : Int) (r2 : Int) (w : World) (hr0 : Kd.C k40 w A0 l0.length l0) (hc0 : l0.length ≤ c0) (hr1 : Kd.C (Kd.int .i64) w A1 l1.length l1) (hc1 : l1.length ≤ c1) (h : top_Ask.f k l0 l1 = some (r1, r2)) :
 Calls Tryz.prog 23 #[.slice A0 l0.length c0, .slice A1 l1.length c1] w fun e w' => e = .returned (.agg #[.int .i64 r1, .int .i64 r2]) ∧ Below w.heap.size w w' := by
 have hu27 := Tryz.underlying27
 have HR0 := a_ hr0
 have HC0 := a_ hc0
 clear hr0 hc0
 have HR1 := a_ hr1
 have HC1 := a_ hc1
 clear hr1 hc1
 have HB := a_ (Below.refl w.heap.size w)
 have H := h; unfold top_Ask.f at H
 clear h
 replace H := ifI_ H; obtain ⟨c3, H⟩ := H
 have c3b0 : decide (0 < (l1.length : Int)) = true := decide_eq_true c3
 have c3b1 : decide (0 < l1.length) = true := decide_eq_true (by omega)
 clear c3
 by_cases c4 : (rd l1 0) = 0
 case pos =>
  rw [if_pos c4] at H
  have c4b0 : ((rd l1 0) == 0) = true := beq_iff_eq.mpr c4
  have c4b1 : ((rd l1 0) != 0) = false := bne_eq_false_iff_eq.mpr c4
  clear c4
  simp only [Option.some.injEq, Prod.mk.injEq] at H
  obtain ⟨rfl, rfl⟩ := H
  go_enter Tryz.func23, Tryz.ntmps23
  go_wp2_with (first | ((with_reducible refine gate_dst (N := 4) rfl ?_); refine boxE_ 4 #[.int .i64 0, .int .i64 0] 27 ?_; intro g0 hg w5 hbox hb; have B0 := a_ (hbox); have E0 := a_ ((gE_ hg : w.heap.size ≤ g0)); replace HB := a_ (below_step hB_ hb); clear hb hbox hg; have p157 : 0 ≤ (0 : Int) := (by omega); have q157 : 0 < (l1.length : Int) := of_decide_eq_true hA_; obtain ⟨d0, e157, h0⟩ := Kd.at_int HR1.out 0 p157 q157; cases e157; have qi157 : (0 < l1.length) = True := eq_true (by omega); (try rw [show ((0 : Int)).toNat = 0 from rfl] at h0); (try rw [Addr.add_zero'] at h0); replace h0 := cl_ HB.out h0; replace p157 := eq_true p157; replace q157 := eq_true q157; obtain ⟨z0, z1, f0, f1⟩ := bx2_ B0.out))
  refine bodyPost_ret (results_cell_row rfl _ _ g0 27 #[.int .i64 0, .int .i64 0] (0, 0) _ rfl (bP_ (bP_ (hK_ B0.out))) Tryz.underlying27 rfl (by kernel_rfl)) rfl ?_
  exact ⟨hV_, hC_⟩
 rw [if_neg c4] at H
 have c4b0 : ((rd l1 0) == 0) = false := beq_eq_false_iff_ne.mpr c4
 have c4b1 : ((rd l1 0) != 0) = true := bne_iff_ne.mpr c4
 by_cases c7 : (rd l1 0) = 1
 case pos =>
  rw [if_pos c7] at H
  have c7b0 : ((rd l1 0) == 1) = true := beq_iff_eq.mpr c7
  have c7b1 : ((rd l1 0) != 1) = false := bne_eq_false_iff_eq.mpr c7
  clear c7
  simp only [Option.some.injEq, Prod.mk.injEq] at H
  obtain ⟨rfl, rfl⟩ := H
  go_enter Tryz.func23, Tryz.ntmps23
  go_wp2_with (first | ((with_reducible refine gate_dst (N := 4) rfl ?_); refine boxE_ 4 #[.int .i64 0, .int .i64 0] 27 ?_; intro g0 hg w8 hbox hb; have B0 := a_ (hbox); have E0 := a_ ((gE_ hg : w.heap.size ≤ g0)); replace HB := a_ (below_step hB_ hb); clear hb hbox hg; have p157 : 0 ≤ (0 : Int) := (by omega); have q157 : 0 < (l1.length : Int) := of_decide_eq_true hA_; obtain ⟨d0, e157, h0⟩ := Kd.at_int HR1.out 0 p157 q157; cases e157; have qi157 : (0 < l1.length) = True := eq_true (by omega); (try rw [show ((0 : Int)).toNat = 0 from rfl] at h0); (try rw [Addr.add_zero'] at h0); replace h0 := cl_ HB.out h0; replace p157 := eq_true p157; replace q157 := eq_true q157; obtain ⟨z2, z3, f2, f3⟩ := bx2_ B0.out))
  refine bodyPost_ret (results_cell_row rfl _ _ g0 27 #[.int .i64 2, .int .i64 0] (0, 0) _ rfl (bP_ (bP_ (hK_ B0.out))) Tryz.underlying27 rfl (by kernel_rfl)) rfl ?_
  exact ⟨hV_, hC_⟩
 rw [if_neg c7] at H
 have c7b0 : ((rd l1 0) == 1) = false := beq_eq_false_iff_ne.mpr c7
 have c7b1 : ((rd l1 0) != 1) = true := bne_iff_ne.mpr c7
 by_cases c10 : (rd l1 0) = 3
 case pos =>
  rw [if_pos c10] at H
  have c10b0 : ((rd l1 0) == 3) = true := beq_iff_eq.mpr c10
  have c10b1 : ((rd l1 0) != 3) = false := bne_eq_false_iff_eq.mpr c10
  clear c10
  simp only [Option.some.injEq, Prod.mk.injEq] at H
  obtain ⟨rfl, rfl⟩ := H
  go_enter Tryz.func23, Tryz.ntmps23
  go_wp2_with (first | ((with_reducible refine gate_dst (N := 4) rfl ?_); refine boxE_ 4 #[.int .i64 0, .int .i64 0] 27 ?_; intro g0 hg w0 hbox hb; have B0 := a_ (hbox); have E0 := a_ ((gE_ hg : w.heap.size ≤ g0)); replace HB := a_ (below_step hB_ hb); clear hb hbox hg; have p157 : 0 ≤ (0 : Int) := (by omega); have q157 : 0 < (l1.length : Int) := of_decide_eq_true hA_; obtain ⟨d0, e157, h0⟩ := Kd.at_int HR1.out 0 p157 q157; cases e157; have qi157 : (0 < l1.length) = True := eq_true (by omega); (try rw [show ((0 : Int)).toNat = 0 from rfl] at h0); (try rw [Addr.add_zero'] at h0); replace h0 := cl_ HB.out h0; replace p157 := eq_true p157; replace q157 := eq_true q157; obtain ⟨z4, z5, f4, f5⟩ := bx2_ B0.out))
  refine bodyPost_ret (results_cell_row rfl _ _ g0 27 #[.int .i64 3, .int .i64 0] (0, 0) _ rfl (bP_ (bP_ (hK_ B0.out))) Tryz.underlying27 rfl (by kernel_rfl)) rfl ?_
  exact ⟨hV_, hC_⟩
 rw [if_neg c10] at H
 have c10b0 : ((rd l1 0) == 3) = false := beq_eq_false_iff_ne.mpr c10
 have c10b1 : ((rd l1 0) != 3) = true := bne_iff_ne.mpr c10
 replace H := Option.bind_eq_some_iff.mp H
 obtain ⟨⟨t1, t2⟩, A130, H⟩ := H
 try dsimp only at H
 have A13 := a_ A130
 clear A130
 have H' := a_ H
 clear H
 go_enter Tryz.func23, Tryz.ntmps23
 go_wp2_with (first | ((with_reducible refine gate_dst (N := 4) rfl ?_); refine boxE_ 4 #[.int .i64 0, .int .i64 0] 27 ?_; intro g0 hg w1 hbox hb; have B0 := a_ (hbox); have E0 := a_ ((gE_ hg : w.heap.size ≤ g0)); replace HB := a_ (below_step hB_ hb); clear hb hbox hg; have p157 : 0 ≤ (0 : Int) := (by omega); have q157 : 0 < (l1.length : Int) := of_decide_eq_true hA_; obtain ⟨d0, e157, h0⟩ := Kd.at_int HR1.out 0 p157 q157; cases e157; have qi157 : (0 < l1.length) = True := eq_true (by omega); (try rw [show ((0 : Int)).toNat = 0 from rfl] at h0); (try rw [Addr.add_zero'] at h0); replace h0 := cl_ HB.out h0; replace p157 := eq_true p157; replace q157 := eq_true q157) | ((with_reducible refine gate_callee (f := 38) rfl ?_); refine goesL_ (some 26) rfl rfl Tryz.func38 (by kernel_rfl) rfl #[.slice A0 l0.length c0, .slice (some d0) l1.length c1, .int .i64 0, .int .i64 2] rfl hL_ ?_; (with_reducible refine (top_first.calls _ _ l0 _ _ l1 0 2 t1 t2 _ ?s1 ?s2 ?s3 ?s4 A13.out).mono ?_); (case s1 => exact cB_ HR0.out); (case s2 => exact HC0.out); (case s3 => exact cB_ HR1.out); (case s4 => exact HC1.out); rintro e w2 ⟨rfl, hb⟩; refine ⟨_, rfl, ?_⟩; replace B0 := a_ (bB_ B0.out hb); replace HB := a_ (below_step hC_ hb); (try clear hb); (try clear hb2); (try clear hk); (try clear hi)))
 (try simp only [Act.put, List.setIfInBounds_toArray, List.set_cons_zero, List.set_cons_succ])
 go_loopg [5, 6, 7] k (fun kq v5 v6 v7 w' => ∃ (x0 : Int) (x1 : Int) (x2 : Bool), v5 = .int .i64 x0 ∧ v6 = .int .i64 x1 ∧ v7 = .bool x2 ∧ Aside0 (top_Ask.l0 kq l0 l1 x0 x1 x2 = some (r1, r2)) ∧ Aside0 (kq ≤ k) ∧ Aside0 (w'.heap[g0]? = some (.cells #[.int .i64 0, .int .i64 0] 27 (0, 0))) ∧ Aside0 (Below w.heap.size w w'))
 case atStart => exact ⟨(0), (t1), (t2), hW_, hW_, hW_, H', ⟨Nat.le_refl _⟩, ⟨(hK_ B0.out)⟩, ⟨hC_⟩⟩
 case round =>
  clear H'
  try clear c1
  try clear p1
  try clear q1
  try clear h1
  try clear qi1
  try clear c2
  try clear p2
  try clear c3
  try clear c3b0
  try clear c3b1
  try clear c4
  try clear c4b0
  try clear c4b1
  try clear c7
  try clear c7b0
  try clear c7b1
  try clear c10
  try clear c10b0
  try clear c10b1
  try clear p15
  try clear q15
  try clear h2
  try clear qi15
  try clear z4
  try clear z5
  try clear z0
  try clear z1
  try clear z2
  try clear z3
  try clear f4
  try clear f5
  try clear f0
  try clear f1
  try clear f2
  try clear f3
  try clear h0
  try clear p157
  try clear q157
  obtain ⟨x0, x1, x2, rfl, rfl, rfl, HA, HK1, B0, HB⟩ := hrel
  cases gk with
  | zero => exact absurd HA.out (by simp [top_Ask.l0])
  | succ k1 =>
   have H := HA.out
   clear HA
   simp only [top_Ask.l0] at H
   by_cases c16 : x2 = true
   case pos =>
    subst c16
    rw [if_pos rfl] at H
    replace H := Option.bind_eq_some_iff.mp H
    obtain ⟨⟨t3, t4⟩, A170, H⟩ := H
    try dsimp only at H
    have A17 := a_ A170
    clear A170
    have H' := a_ H
    clear H
    go_wp2_with (first | ((with_reducible refine gate_callee (f := 38) rfl ?_); refine goesL_ (some 34) rfl rfl Tryz.func38 (by kernel_rfl) rfl #[.slice A0 l0.length c0, .slice (some d0) l1.length c1, .int .i64 x1, .int .i64 2] rfl hL_ ?_; (with_reducible refine (top_first.calls _ _ l0 _ _ l1 x1 2 t3 t4 _ ?s1 ?s2 ?s3 ?s4 A17.out).mono ?_); (case s1 => exact cB_ HR0.out); (case s2 => exact HC0.out); (case s3 => exact cB_ HR1.out); (case s4 => exact HC1.out); rintro e w3 ⟨rfl, hb⟩; refine ⟨_, rfl, ?_⟩; replace B0 := a_ (bB_ B0.out hb); replace HB := a_ (below_step hC_ hb); (try clear hb); (try clear hb2); (try clear hk); (try clear hi)))
    go_roundg k1
    case measure => have := HK1.out; omega
    case rel => exact ⟨(x1), (t3), (t4), hW_, hW_, hW_, H', ⟨by have := HK1.out; omega⟩, ⟨(hK_ B0.out)⟩, ⟨hC_⟩⟩
   replace c16 := Bool.eq_false_iff.mpr c16
   subst c16
   rw [if_neg (show ¬ (false = true) by decide)] at H
   replace H := Option.bind_eq_some_iff.mp H
   obtain ⟨⟨t0, t7⟩, A190, H⟩ := H
   try dsimp only at H
   have A19 := a_ A190
   clear A190
   by_cases c20 : t7 = true
   case pos =>
    subst c20
    rw [if_pos rfl] at H
    simp only [Option.some.injEq, Prod.mk.injEq] at H
    obtain ⟨rfl, rfl⟩ := H
    go_wp2_with (first | ((with_reducible refine gate_callee (f := 38) rfl ?_); refine goesL_ (some 42) rfl rfl Tryz.func38 (by kernel_rfl) rfl #[.slice A0 l0.length c0, .slice (some d0) l1.length c1, .int .i64 x0, .int .i64 0] rfl hL_ ?_; (with_reducible refine (top_first.calls _ _ l0 _ _ l1 x0 0 t0 true _ ?s1 ?s2 ?s3 ?s4 A19.out).mono ?_); (case s1 => exact cB_ HR0.out); (case s2 => exact HC0.out); (case s3 => exact cB_ HR1.out); (case s4 => exact HC1.out); rintro e w4 ⟨rfl, hb⟩; refine ⟨_, rfl, ?_⟩; replace B0 := a_ (bB_ B0.out hb); replace HB := a_ (below_step hC_ hb); (try clear hb); (try clear hb2); (try clear hk); (try clear hi); obtain ⟨z6, z7, f6, f7⟩ := bx2_ B0.out))
    refine bodyPost_ret (results_cell_row rfl _ _ g0 27 #[.int .i64 0, .int .i64 t0] (0, 0) _ rfl (bP_ (bP_ (hK_ B0.out))) Tryz.underlying27 rfl (by kernel_rfl)) rfl ?_
    exact ⟨hV_, hC_⟩
   replace c20 := Bool.eq_false_iff.mpr c20
   subst c20
   rw [if_neg (show ¬ (false = true) by decide)] at H
   replace H := Option.bind_eq_some_iff.mp H
   obtain ⟨⟨t5, t6⟩, A230, H⟩ := H
   try dsimp only at H
   have A23 := a_ A230
   clear A230
   simp only [Option.some.injEq, Prod.mk.injEq] at H
   obtain ⟨rfl, rfl⟩ := H
   go_wp2_with (first | ((with_reducible refine gate_callee (f := 38) rfl ?_); refine goesL_ (some 42) rfl rfl Tryz.func38 (by kernel_rfl) rfl #[.slice A0 l0.length c0, .slice (some d0) l1.length c1, .int .i64 x0, .int .i64 0] rfl hL_ ?_; (with_reducible refine (top_first.calls _ _ l0 _ _ l1 x0 0 t0 false _ ?s1 ?s2 ?s3 ?s4 A19.out).mono ?_); (case s1 => exact cB_ HR0.out); (case s2 => exact HC0.out); (case s3 => exact cB_ HR1.out); (case s4 => exact HC1.out); rintro e w6 ⟨rfl, hb⟩; refine ⟨_, rfl, ?_⟩; replace B0 := a_ (bB_ B0.out hb); replace HB := a_ (below_step hC_ hb); (try clear hb); (try clear hb2); (try clear hk); (try clear hi)) | ((with_reducible refine gate_callee (f := 30) rfl ?_); refine goesL_ (some 51) rfl rfl Tryz.func30 (by kernel_rfl) rfl #[.slice A0 l0.length c0, .slice (some d0) l1.length c1, .int .i64 x0] rfl hL_ ?_; (with_reducible refine (top_Bug.calls _ _ l0 _ _ l1 x0 t5 t6 _ ?s1 ?s2 ?s3 ?s4 A23.out).mono ?_); (case s1 => exact cB_ HR0.out); (case s2 => exact HC0.out); (case s3 => exact cB_ HR1.out); (case s4 => exact HC1.out); rintro e w7 ⟨rfl, hb⟩; refine ⟨_, rfl, ?_⟩; replace B0 := a_ (bB_ B0.out hb); replace HB := a_ (below_step hC_ hb); (try clear hb); (try clear hb2); (try clear hk); (try clear hi); obtain ⟨z8, z9, f8, f9⟩ := bx2_ B0.out))
   refine bodyPost_ret (results_cell_row rfl _ _ g0 27 #[.int .i64 t5, .int .i64 t6] (0, 0) _ rfl (bP_ (bP_ (hK_ B0.out))) Tryz.underlying27 rfl (by kernel_rfl)) rfl ?_
   exact ⟨hV_, hC_⟩
set_option maxHeartbeats 8000000
set_option maxRecDepth 100000
attribute [local go_sem] max2_int min2_int max_two min_two max_three min_three max_four min_four   -- for this text's walks alone
set_option linter.unusedVariables false
set_option linter.unusedSimpArgs false

def half_last.l0 : Nat → Int → List Int → Int → Int → Option (Int)
 | 0, _, _, _, _ => none
 | k + 1, x3, x6, x7, x8 => if x8 < x7 then (if 0 ≤ x8 then (if x8 < (x6.length : Int) then (if (rd x6 x8) = 2 then (half_last.l0 k x8 x6 x7 (wrap64 (x8 + 1))) else (half_last.l0 k x3 x6 x7 (wrap64 (x8 + 1)))) else (none)) else (none)) else (some x3)
def half_last.f (k : Nat) (l0 : List Int) : Option (Int) := half_last.l0 k 0 l0 (l0.length : Int) 0
theorem half_last.calls (k : Nat) (A0 : Option Addr) (c0 : Nat) (l0 : List Int) (r : Int) (w : World) (hr0 : Kd.C (Kd.int .i64) w A0 l0.length l0) (hc0 : l0.length ≤ c0) (h : half_last.f k l0 = some r) :
 Calls Tryz.prog 24 #[.slice A0 l0.length c0] w fun e w' => e = .returned (.int .i64 r) ∧ Drawn0 w w' := by
 have HR0 := a_ hr0
 have HC0 := a_ hc0
 clear hr0 hc0
 have H : (half_last.l0 k 0 l0 (l0.length : Int) 0) = some r := h
 clear h
 have H' := a_ H
 clear H
 go_enter Tryz.func24, Tryz.ntmps24
 go_wp2
 go_loopg [3, 8] k (fun kq v3 v8 w' => ∃ (x1 : Int) (x0 : Int), v3 = .int .i64 x1 ∧ v8 = .int .i64 x0 ∧ Aside0 (half_last.l0 kq x1 l0 (l0.length : Int) x0 = some r) ∧ Aside0 (kq ≤ k) ∧ Drawn0 w w')
 case atStart => exact ⟨(0), (0), hW_, hW_, H', ⟨Nat.le_refl _⟩, by repeat (first | exact Drawn0.refl _ | apply Drawn0.step)⟩
 case round =>
  clear H'
  obtain ⟨x1, x0, rfl, rfl, HA, HK1, ⟨m1, rfl⟩⟩ := hrel
  cases gk with
  | zero => exact absurd HA.out (by simp [half_last.l0])
  | succ k1 =>
   have H := HA.out
   clear HA
   simp only [half_last.l0] at H
   by_cases c2 : x0 < (l0.length : Int)
   case neg =>
    rw [if_neg c2] at H
    have c2b0 : decide (x0 < (l0.length : Int)) = false := decide_eq_false c2
    clear c2
    obtain rfl := Option.some.inj H
    go_wp2
    go_ret
    exact ⟨by first | rfl | (simp; done) | (simp [*]; done), by repeat (first | exact Drawn0.refl _ | apply Drawn0.step)⟩

   rw [if_pos c2] at H
   have c2b0 : decide (x0 < (l0.length : Int)) = true := decide_eq_true c2
   clear c2
   replace H := ifI_ H; obtain ⟨c3, H⟩ := H
   have c3b0 : decide (0 ≤ x0) = true := decide_eq_true c3
   clear c3
   replace H := ifI_ H; obtain ⟨c4, H⟩ := H
   have c4b0 : decide (x0 < (l0.length : Int)) = true := decide_eq_true c4
   clear c4
   by_cases c5 : (rd l0 x0) = 2
   case neg =>
    rw [if_neg c5] at H
    have c5b0 : ((rd l0 x0) == 2) = false := beq_eq_false_iff_ne.mpr c5
    have c5b1 : ((rd l0 x0) != 2) = true := bne_iff_ne.mpr c5
    have H' := a_ H
    clear H
    have p166 : 0 ≤ (x0 : Int) := of_decide_eq_true hA_
    have q166 : x0 < (l0.length : Int) := of_decide_eq_true hA_
    obtain ⟨d0, e166, h0⟩ := Kd.at_int HR0.out x0 p166 q166
    cases e166
    replace p166 := eq_true p166
    replace q166 := eq_true q166
    go_wp2
    go_roundg k1
    case measure => have := HK1.out; omega
    case rel => exact ⟨(x1), (wrap64 (x0 + 1)), hW_, hW_, H', ⟨by have := HK1.out; omega⟩, by repeat (first | exact Drawn0.refl _ | apply Drawn0.step)⟩
   rw [if_pos c5] at H
   have c5b0 : ((rd l0 x0) == 2) = true := beq_iff_eq.mpr c5
   have c5b1 : ((rd l0 x0) != 2) = false := bne_eq_false_iff_eq.mpr c5
   clear c5
   have H' := a_ H
   clear H
   have p166 : 0 ≤ (x0 : Int) := of_decide_eq_true hA_
   have q166 : x0 < (l0.length : Int) := of_decide_eq_true hA_
   obtain ⟨d0, e166, h0⟩ := Kd.at_int HR0.out x0 p166 q166
   cases e166
   replace p166 := eq_true p166
   replace q166 := eq_true q166
   go_wp2
   go_roundg k1
   case measure => have := HK1.out; omega
   case rel => exact ⟨(x0), (wrap64 (x0 + 1)), hW_, hW_, H', ⟨by have := HK1.out; omega⟩, by repeat (first | exact Drawn0.refl _ | apply Drawn0.step)⟩
set_option maxHeartbeats 8000000
set_option maxRecDepth 100000
attribute [local go_sem] max2_int min2_int max_two min_two max_three min_three max_four min_four   -- for this text's walks alone
set_option linter.unusedVariables false
set_option linter.unusedSimpArgs false

def half_doubts.l0 : Nat → List (S40) → List Int → Int → List Bool → Int → Option (List Bool)
 | 0, _, _, _, _, _ => none
 | k + 1, x0, x1, x2, x7, x8 => if x8 < (x0.length : Int) then (if 0 ≤ x8 then (if ((rd_T40 x0 x8).f1) = x2 then (if x8 < (x1.length : Int) then (if x8 < (x7.length : Int) then (half_doubts.l0 k x0 x1 x2 (x7.set (x8 : Int).toNat ((rd x1 x8) != 1)) (wrap64 (x8 + 1))) else (none)) else (none)) else (if 0 ≤ ((rd_T40 x0 x8).f1) then (if ((rd_T40 x0 x8).f1) < (x7.length : Int) then (if rdOf false x7 ((rd_T40 x0 x8).f1) = true then (if x8 < (x1.length : Int) then (if x8 < (x7.length : Int) then (half_doubts.l0 k x0 x1 x2 (x7.set (x8 : Int).toNat ((rd x1 x8) != 1)) (wrap64 (x8 + 1))) else (none)) else (none)) else (if x8 < (x7.length : Int) then (half_doubts.l0 k x0 x1 x2 (x7.set (x8 : Int).toNat false) (wrap64 (x8 + 1))) else (none))) else (none)) else (none))) else (none)) else (some x7)
def half_doubts.f (k : Nat) (l0 : List (S40)) (l1 : List Int) (a2 : Int) : Option (List Bool) := if 0 ≤ (l0.length : Int) then (if ((l0.length : Int) : Int).toNat ≤ 281474976710656 then (half_doubts.l0 k l0 l1 a2 (List.replicate ((l0.length : Int) : Int).toNat false) (wrap64 (a2 + 1))) else (none)) else (none)
theorem half_doubts.calls (k : Nat) (A0 : Option Addr) (c0 : Nat) (l0 : List (S40)) (A1 : Option Addr) (c1 : Nat) (l1 : List Int) (a2 : Int) (r : List Bool) (w : World) (hr0 : Kd.C k40 w A0 l0.length l0) (hc0 : l0.length ≤ c0) (hr1 : Kd.C (Kd.int .i64) w A1 l1.length l1) (hc1 : l1.length ≤ c1) (h : half_doubts.f k l0 l1 a2 = some r) :
 Calls Tryz.prog 25 #[.slice A0 l0.length c0, .slice A1 l1.length c1, .int .i64 a2] w fun e w' => ∃ v0_ : Value, e = .returned (v0_) ∧ Kd.R Kd.bool 4 w' w.heap.size (fun _ => True) v0_ r ∧ Below w.heap.size w w' := by
 have HR0 := a_ hr0
 have HC0 := a_ hc0
 clear hr0 hc0
 have HR1 := a_ hr1
 have HC1 := a_ hc1
 clear hr1 hc1
 have HB := a_ (Below.refl w.heap.size w)
 have H := h; unfold half_doubts.f at H
 clear h
 replace H := ifI_ H; obtain ⟨c4, H⟩ := H
 have c4b0 := eq_true c4
 have c4b1 : decide (0 ≤ (l0.length : Int)) = true := decide_eq_true c4
 clear c4
 replace H := ifI_ H; obtain ⟨c5, H⟩ := H
 have c5b0 := eq_true c5
 have c5b1 : decide (((l0.length : Int) : Int).toNat ≤ 281474976710656) = true := decide_eq_true c5
 clear c5
 obtain ⟨y3, i0⟩ : ∃ y_ : List Bool, y_ = (List.replicate ((l0.length : Int) : Int).toNat false) := ⟨_, rfl⟩
 replace H : (half_doubts.l0 k l0 l1 a2 y3 (wrap64 (a2 + 1))) = some r := by first | (rw [i0]; with_reducible exact H) | (have H2_ := (Option.bind_some _ _).symm.trans H; rw [i0]; with_reducible exact H2_) | (have H2_ := (Option.bind_some _ _).symm.trans H; with_reducible exact H2_) | with_reducible exact H | (rw [i0]; exact H) | exact H
 have Y0 := a_ i0
 clear i0
 have H' := a_ H
 clear H
 go_enter Tryz.func25, Tryz.ntmps25
 go_wp2_with (first | ((with_reducible refine gate_dst (N := 12) rfl ?_); refine Kd.R_make Kd.bool _ 4 rfl (N := 12) rfl 48 _ _ rfl (l0.length : Int) rfl rfl Tryz.underlying48 (.bool false) 1 info4 rfl (by decide) (by omega) false (ok := fun _ => True) (okp := fun _ => True) rfl (fun _ hk => hk) trivial (of_decide_eq_true hA_) (Nat.le_trans (Nat.mul_le_mul_right _ (of_decide_eq_true hA_ : (l0.length : Int).toNat ≤ 281474976710656)) (by omega)) (Below.refl _ _) (Nat.le_refl _) ?_; intro v0 w6 ho7 hb hg_ hnew_; clear hg_ hnew_; (first | rw [← Y0.out] at ho7 | (simp only [Int.reduceToNat] at ho7; rw [← Y0.out] at ho7)); have P0 := a_ (Kd.R_lower ho7 hS_); replace HB := a_ (below_step hB_ hb); clear hb ho7))
 go_loopg [8] k (fun kq v8 w' => ∃ (x1 : List Bool) (x0 : Int), v8 = .int .i64 x0 ∧ Aside0 (half_doubts.l0 kq l0 l1 a2 x1 x0 = some r) ∧ Aside0 (kq ≤ k) ∧ Aside0 (Kd.R Kd.bool 4 w' w.heap.size (fun _ => True) v0 x1) ∧ Aside0 (Below w.heap.size w w'))
 case atStart => exact ⟨(y3), (wrap64 (a2 + 1)), hW_, H', ⟨Nat.le_refl _⟩, ⟨hR_ P0.out⟩, ⟨hC_⟩⟩
 case round =>
  clear H'
  try clear c1
  try clear c2
  try clear p2
  try clear c4
  try clear c4b0
  try clear c4b1
  try clear c5
  try clear c5b0
  try clear c5b1
  try clear p6
  obtain ⟨x1, x0, rfl, HA, HK1, O0, HB⟩ := hrel
  cases gk with
  | zero => exact absurd HA.out (by simp [half_doubts.l0])
  | succ k1 =>
   have H := HA.out
   clear HA
   simp only [half_doubts.l0] at H
   by_cases c8 : x0 < (l0.length : Int)
   case neg =>
    rw [if_neg c8] at H
    have c8b0 : decide (x0 < (l0.length : Int)) = false := decide_eq_false c8
    clear c8
    obtain rfl := Option.some.inj H
    go_wp2
    go_ret
    exact ⟨_, hV_, hR_ O0.out, hC_⟩
   rw [if_pos c8] at H
   have c8b0 : decide (x0 < (l0.length : Int)) = true := decide_eq_true c8
   clear c8
   replace H := ifI_ H; obtain ⟨c9, H⟩ := H
   have c9b0 : decide (0 ≤ x0) = true := decide_eq_true c9
   clear c9
   by_cases c10 : ((rd_T40 l0 x0).f1) = a2
   case pos =>
    rw [if_pos c10] at H
    have c10b0 : (((rd_T40 l0 x0).f1) == a2) = true := beq_iff_eq.mpr c10
    have c10b1 : (((rd_T40 l0 x0).f1) != a2) = false := bne_eq_false_iff_eq.mpr c10
    clear c10
    replace H := ifI_ H; obtain ⟨c11, H⟩ := H
    have c11b0 : decide (x0 < (l1.length : Int)) = true := decide_eq_true c11
    clear c11
    replace H := ifI_ H; obtain ⟨c12, H⟩ := H
    have c12b0 : decide (x0 < (x1.length : Int)) = true := decide_eq_true c12
    clear c12
    obtain ⟨y0, i1⟩ : ∃ y_ : List Bool, y_ = (x1.set (x0 : Int).toNat ((rd l1 x0) != 1)) := ⟨_, rfl⟩
    replace H : (half_doubts.l0 k1 l0 l1 a2 y0 (wrap64 (x0 + 1))) = some r := by first | (rw [i1]; with_reducible exact H) | (have H2_ := (Option.bind_some _ _).symm.trans H; rw [i1]; with_reducible exact H2_) | (have H2_ := (Option.bind_some _ _).symm.trans H; with_reducible exact H2_) | with_reducible exact H | (rw [i1]; exact H) | exact H
    have Y1 := a_ i1
    clear i1
    have H' := a_ H
    clear H
    have p170 : 0 ≤ (x0 : Int) := of_decide_eq_true hA_
    have q170 : x0 < (l0.length : Int) := of_decide_eq_true hA_
    obtain ⟨d0, A170_2, c170_2, e170, h0, h1, h2, h3, hl170_2, hi170_2⟩ := at_T40 HR0.out x0 p170 q170
    cases e170
    replace h0 := cl_ HB.out h0
    replace h1 := cl_ HB.out h1
    replace h2 := cl_ HB.out h2
    replace h3 := cl_ HB.out h3
    have HR170_2 := a_ hi170_2
    have HC170_2 := a_ hl170_2
    clear hi170_2 hl170_2
    replace p170 := eq_true p170
    replace q170 := eq_true q170
    have p171 : 0 ≤ (x0 : Int) := of_decide_eq_true hA_
    have q171 : x0 < (l1.length : Int) := of_decide_eq_true hA_
    obtain ⟨d2, e171, h5⟩ := Kd.at_int HR1.out x0 p171 q171
    cases e171
    replace h5 := cl_ HB.out h5
    replace p171 := eq_true p171
    replace q171 := eq_true q171
    have p13 : 0 ≤ (x0 : Int) := of_decide_eq_true hA_
    have q13 : (x0 : Int) < ((x1.length : Int) : Int) := of_decide_eq_true hA_
    obtain ⟨j0, o0, e0, g0, gl13, cl13, HG13⟩ := Kd.R_form O0.out (by omega)
    (first | cases e0 | (injection e0 with ea_ en_ ec_; (first | subst ea_ | (injection ea_ with ea_; subst ea_)); subst ec_; clear en_))
    have J0 := a_ g0
    have K0 := a_ HG13
    clear g0 gl13 HG13
    obtain ⟨h7, hf13_0⟩ := Kd.R_celln false O0.out (x0 : Int) p13 q13
    replace p13 := eq_true p13
    replace q13 := eq_true q13
    have HP14 := Kd.R_putg O0.out (x0 : Int) ((rd l1 x0) != 1)
    go_wp2_with (first | ((with_reducible refine gate_store (t := 4) (p := 44) rfl ?_); refine store_event (t := 4) (p := 44) (v := ?vo_w15) (w1 := (wr.setCell ⟨j0, (x0 : Int).toNat, none⟩ (.bool ((rd l1 x0) != 1)))) ?hg ?ho ?hn ?hr ?_; (case ho => rfl); (case hg => rfl); (case hn => rfl); (case hr => first | (go_simp; done) | (go_simp; rfl)); intro w0 hw; have hg : wr.grownBy w0 (some j0) := (by rw [hw]; exact HP14.2); have hp_ : Kd.R Kd.bool 4 w0 w.heap.size (fun _ => True) (.slice (some ⟨j0, 0, none⟩) x1.length o0) y0 := (by rw [hw, Y1.out]; exact HP14.1); clear HP14; replace O0 := a_ (hp_); replace HB := a_ ((by rw [hw]; exact below_set (HB.out) J0.out : Below w.heap.size w w0)); clear hg hw hp_))
    go_roundg k1
    case measure => have := HK1.out; omega
    case rel => exact ⟨(y0), (wrap64 (x0 + 1)), hW_, H', ⟨by have := HK1.out; omega⟩, ⟨hR_ O0.out⟩, ⟨hC_⟩⟩
   rw [if_neg c10] at H
   have c10b0 : (((rd_T40 l0 x0).f1) == a2) = false := beq_eq_false_iff_ne.mpr c10
   have c10b1 : (((rd_T40 l0 x0).f1) != a2) = true := bne_iff_ne.mpr c10
   replace H := ifI_ H; obtain ⟨c16, H⟩ := H
   have c16b0 : decide (0 ≤ ((rd_T40 l0 x0).f1)) = true := decide_eq_true c16
   clear c16
   replace H := ifI_ H; obtain ⟨c17, H⟩ := H
   have c17b0 : decide (((rd_T40 l0 x0).f1) < (x1.length : Int)) = true := decide_eq_true c17
   clear c17
   obtain ⟨bq18, hbq18⟩ : ∃ b_ : Bool, b_ = (rdOf false x1 ((rd_T40 l0 x0).f1)) := ⟨_, rfl⟩
   replace H : (if bq18 = true then (if x0 < (l1.length : Int) then (if x0 < (x1.length : Int) then (half_doubts.l0 k1 l0 l1 a2 (x1.set (x0 : Int).toNat ((rd l1 x0) != 1)) (wrap64 (x0 + 1))) else (none)) else (none)) else (if x0 < (x1.length : Int) then (half_doubts.l0 k1 l0 l1 a2 (x1.set (x0 : Int).toNat false) (wrap64 (x0 + 1))) else (none))) = some r := by rw [← hbq18] at H; exact H
   have Q0 := a_ hbq18
   clear hbq18
   by_cases c19 : bq18 = true
   case neg =>
    replace c19 := Bool.eq_false_iff.mpr c19
    subst c19
    rw [if_neg (show ¬ (false = true) by decide)] at H
    replace H := ifI_ H; obtain ⟨c26, H⟩ := H
    have c26b0 : decide (x0 < (x1.length : Int)) = true := decide_eq_true c26
    clear c26
    obtain ⟨y1, i2⟩ : ∃ y_ : List Bool, y_ = (x1.set (x0 : Int).toNat false) := ⟨_, rfl⟩
    replace H : (half_doubts.l0 k1 l0 l1 a2 y1 (wrap64 (x0 + 1))) = some r := by first | (rw [i2]; with_reducible exact H) | (have H2_ := (Option.bind_some _ _).symm.trans H; rw [i2]; with_reducible exact H2_) | (have H2_ := (Option.bind_some _ _).symm.trans H; with_reducible exact H2_) | with_reducible exact H | (rw [i2]; exact H) | exact H
    have Y2 := a_ i2
    clear i2
    have H' := a_ H
    clear H
    have p170 : 0 ≤ (x0 : Int) := of_decide_eq_true hA_
    have q170 : x0 < (l0.length : Int) := of_decide_eq_true hA_
    obtain ⟨d0, A170_2, c170_2, e170, h0, h1, h2, h3, hl170_2, hi170_2⟩ := at_T40 HR0.out x0 p170 q170
    cases e170
    replace h0 := cl_ HB.out h0
    replace h1 := cl_ HB.out h1
    replace h2 := cl_ HB.out h2
    replace h3 := cl_ HB.out h3
    have HR170_2 := a_ hi170_2
    have HC170_2 := a_ hl170_2
    clear hi170_2 hl170_2
    replace p170 := eq_true p170
    replace q170 := eq_true q170
    obtain ⟨a0, o1, e3⟩ := Kd.R_slice O0.out
    subst e3
    have p173 : 0 ≤ (((rd_T40 l0 x0).f1) : Int) := of_decide_eq_true hA_
    have q173 : ((rd_T40 l0 x0).f1) < (x1.length : Int) := of_decide_eq_true hA_
    obtain ⟨d1, e173, h4⟩ := Kd.at_bool (Kd.R_reads' O0.out).2.2 ((rd_T40 l0 x0).f1) p173 q173
    (try rw [← Q0.out] at h4)
    cases e173
    replace p173 := eq_true p173
    replace q173 := eq_true q173
    have p27 : 0 ≤ (x0 : Int) := of_decide_eq_true hA_
    have q27 : (x0 : Int) < ((x1.length : Int) : Int) := of_decide_eq_true hA_
    obtain ⟨j1, o3, e1, g1, gl27, cl27, HG27⟩ := Kd.R_form O0.out (by omega)
    (first | cases e1 | (injection e1 with ea_ en_ ec_; (first | subst ea_ | (injection ea_ with ea_; subst ea_)); subst ec_; clear en_))
    have J1 := a_ g1
    have K1 := a_ HG27
    clear g1 gl27 HG27
    (first | simp only [add_plain] at h4 | skip)
    obtain ⟨h8, hf27_0⟩ := Kd.R_celln false O0.out (x0 : Int) p27 q27
    replace p27 := eq_true p27
    replace q27 := eq_true q27
    have HP29 := Kd.R_putg O0.out (x0 : Int) false
    go_wp2_with (first | ((with_reducible refine gate_store (t := 4) (p := 44) rfl ?_); refine store_event (t := 4) (p := 44) (v := ?vo_w30) (w1 := (wr.setCell ⟨j1, (x0 : Int).toNat, none⟩ (.bool false))) ?hg ?ho ?hn ?hr ?_; (case ho => rfl); (case hg => rfl); (case hn => rfl); (case hr => first | (go_simp; done) | (go_simp; rfl)); intro w2 hw; have hg : wr.grownBy w2 (some j1) := (by rw [hw]; exact HP29.2); have hp_ : Kd.R Kd.bool 4 w2 w.heap.size (fun _ => True) (.slice (some ⟨j1, 0, none⟩) x1.length o1) y1 := (by rw [hw, Y2.out]; exact HP29.1); clear HP29; replace O0 := a_ (hp_); replace HB := a_ ((by rw [hw]; exact below_set (HB.out) J1.out : Below w.heap.size w w2)); clear hg hw hp_))
    go_roundg k1
    case measure => have := HK1.out; omega
    case rel => exact ⟨(y1), (wrap64 (x0 + 1)), hW_, H', ⟨by have := HK1.out; omega⟩, ⟨hR_ O0.out⟩, ⟨hC_⟩⟩
   subst c19
   rw [if_pos rfl] at H
   replace H := ifI_ H; obtain ⟨c20, H⟩ := H
   have c20b0 : decide (x0 < (l1.length : Int)) = true := decide_eq_true c20
   clear c20
   replace H := ifI_ H; obtain ⟨c21, H⟩ := H
   have c21b0 : decide (x0 < (x1.length : Int)) = true := decide_eq_true c21
   clear c21
   obtain ⟨y2, i3⟩ : ∃ y_ : List Bool, y_ = (x1.set (x0 : Int).toNat ((rd l1 x0) != 1)) := ⟨_, rfl⟩
   replace H : (half_doubts.l0 k1 l0 l1 a2 y2 (wrap64 (x0 + 1))) = some r := by first | (rw [i3]; with_reducible exact H) | (have H2_ := (Option.bind_some _ _).symm.trans H; rw [i3]; with_reducible exact H2_) | (have H2_ := (Option.bind_some _ _).symm.trans H; with_reducible exact H2_) | with_reducible exact H | (rw [i3]; exact H) | exact H
   have Y3 := a_ i3
   clear i3
   have H' := a_ H
   clear H
   have p170 : 0 ≤ (x0 : Int) := of_decide_eq_true hA_
   have q170 : x0 < (l0.length : Int) := of_decide_eq_true hA_
   obtain ⟨d0, A170_2, c170_2, e170, h0, h1, h2, h3, hl170_2, hi170_2⟩ := at_T40 HR0.out x0 p170 q170
   cases e170
   replace h0 := cl_ HB.out h0
   replace h1 := cl_ HB.out h1
   replace h2 := cl_ HB.out h2
   replace h3 := cl_ HB.out h3
   have HR170_2 := a_ hi170_2
   have HC170_2 := a_ hl170_2
   clear hi170_2 hl170_2
   replace p170 := eq_true p170
   replace q170 := eq_true q170
   obtain ⟨a1, o2, e4⟩ := Kd.R_slice O0.out
   subst e4
   have p173 : 0 ≤ (((rd_T40 l0 x0).f1) : Int) := of_decide_eq_true hA_
   have q173 : ((rd_T40 l0 x0).f1) < (x1.length : Int) := of_decide_eq_true hA_
   obtain ⟨d1, e173, h4⟩ := Kd.at_bool (Kd.R_reads' O0.out).2.2 ((rd_T40 l0 x0).f1) p173 q173
   (try rw [← Q0.out] at h4)
   cases e173
   replace p173 := eq_true p173
   replace q173 := eq_true q173
   have p174 : 0 ≤ (x0 : Int) := of_decide_eq_true hA_
   have q174 : x0 < (l1.length : Int) := of_decide_eq_true hA_
   obtain ⟨d3, e174, h6⟩ := Kd.at_int HR1.out x0 p174 q174
   cases e174
   replace h6 := cl_ HB.out h6
   replace p174 := eq_true p174
   replace q174 := eq_true q174
   have p22 : 0 ≤ (x0 : Int) := of_decide_eq_true hA_
   have q22 : (x0 : Int) < ((x1.length : Int) : Int) := of_decide_eq_true hA_
   obtain ⟨j2, o4, e2, g2, gl22, cl22, HG22⟩ := Kd.R_form O0.out (by omega)
   (first | cases e2 | (injection e2 with ea_ en_ ec_; (first | subst ea_ | (injection ea_ with ea_; subst ea_)); subst ec_; clear en_))
   have J2 := a_ g2
   have K2 := a_ HG22
   clear g2 gl22 HG22
   (first | simp only [add_plain] at h4 | skip)
   obtain ⟨h9, hf22_0⟩ := Kd.R_celln false O0.out (x0 : Int) p22 q22
   replace p22 := eq_true p22
   replace q22 := eq_true q22
   have HP24 := Kd.R_putg O0.out (x0 : Int) ((rd l1 x0) != 1)
   go_wp2_with (first | ((with_reducible refine gate_store (t := 4) (p := 44) rfl ?_); refine store_event (t := 4) (p := 44) (v := ?vo_w25) (w1 := (wr.setCell ⟨j2, (x0 : Int).toNat, none⟩ (.bool ((rd l1 x0) != 1)))) ?hg ?ho ?hn ?hr ?_; (case ho => rfl); (case hg => rfl); (case hn => rfl); (case hr => first | (go_simp; done) | (go_simp; rfl)); intro w3 hw; have hg : wr.grownBy w3 (some j2) := (by rw [hw]; exact HP24.2); have hp_ : Kd.R Kd.bool 4 w3 w.heap.size (fun _ => True) (.slice (some ⟨j2, 0, none⟩) x1.length o2) y2 := (by rw [hw, Y3.out]; exact HP24.1); clear HP24; replace O0 := a_ (hp_); replace HB := a_ ((by rw [hw]; exact below_set (HB.out) J2.out : Below w.heap.size w w3)); clear hg hw hp_))
   go_roundg k1
   case measure => have := HK1.out; omega
   case rel => exact ⟨(y2), (wrap64 (x0 + 1)), hW_, H', ⟨by have := HK1.out; omega⟩, ⟨hR_ O0.out⟩, ⟨hC_⟩⟩
set_option maxHeartbeats 8000000
set_option maxRecDepth 100000
attribute [local go_sem] max2_int min2_int max_two min_two max_three min_three max_four min_four   -- for this text's walks alone
set_option linter.unusedVariables false
set_option linter.unusedSimpArgs false

/-- what the program does, from the last node on -/
def sizesL (ns : List S40) (c : Int → Int) : Nat → List Int → List Int
 | 0, o => o
 | n + 1, o =>
  let o1 := o.set n (wrap64 (rd o (n : Int) + c (n : Int)))
  sizesL ns c n (if 0 < n then o1.set ((rd_T40 ns (n : Int)).f1).toNat (wrap64 (rd o1 (rd_T40 ns (n : Int)).f1 + rd o1 (n : Int))) else o1)
def sizesP (ns : List S40) (c : Int → Int) : List Int := sizesL ns c ns.length (List.replicate ns.length 0)
theorem sizesL_len (ns : List S40) (c : Int → Int) : ∀ (n : Nat) (o : List Int), (sizesL ns c n o).length = o.length
 | 0, _ => rfl
 | n + 1, o => by
  rw [sizesL, sizesL_len ns c n]
  split <;> simp
theorem infoIntS : (Tryz.prog.info? 3).map (fun i => (i.zero, i.size, i.bytes)) = some (some (.int .i64 0), 1, 8) := by kernel_rfl
section
attribute [local go_sem] Oper.semAt_some
theorem tree_Sizes.in_ (n : Nat) (hn : 2 ≤ n) (g : Nat) (lb : Array Value) (eg : ∀ args w, (callFunc g args).run Tryz.prog w = .ok (.enter g args) w) (c : Int → Int) (A0 : Option Addr) (c0 : Nat) (l0 : List S40) (h512 : l0.length ≤ 512)
 (hP : ∀ i : Int, 0 ≤ i → i < (l0.length : Int) → ((0 ≤ (rd_T40 l0 i).f1 ∧ (rd_T40 l0 i).f1 < i) ∨ (i = 0 ∧ (rd_T40 l0 i).f1 = -1))) (w : World) (hC : Kd.C k40 w A0 l0.length l0)
 (hc : ∀ (i : Int) (W : World), 0 ≤ i → i < (l0.length : Int) → Below w.heap.size w W → Calls Tryz.prog g (#[.int .i64 i] ++ lb) W fun e W' => e = .returned (.int .i64 (c i)) ∧ ∃ m, W' = W.drewN m) :
 CallsIn Fence.wide n Tryz.prog 27 #[.slice A0 l0.length c0, .func (.func g) #[] lb] w fun e w' => ∃ v, e = .returned v ∧ (Kd.int .i64).R 3 w' w.heap.size (fun _ => True) v (sizesP l0 c) ∧ Below w.heap.size w w' := by
 have HC := a_ hC
 have HCC := a_ hc
 have HPP := a_ hP
 clear hC hc hP
 have ffg : Fence.wide.fn g := trivial
 have hmk := print_make_of (P := Tryz.prog) 23 3 (.int .i64 0) 8 Tryz.underlying23 infoIntS rfl (by omega) l0.length (by omega)
 have hmix : Tryz.prog.follows .mixedOrders = true := by kernel_rfl
 refine callsIn_of_wp Tryz.func27 rfl trivial ?_ rfl
 simp only [Tryz.ntmps27, List.size_toArray, List.length_cons, List.length_nil, Nat.reduceAdd, Nat.reduceSub, Array.replicate_succ, Array.replicate_zero, List.push_toArray, List.append_toArray, List.nil_append, List.cons_append]
 have HO := a_ (own_made_of (enc := Value.int .i64) (d := (0 : Int)) w w.heap.size 3 l0.length (Nat.le_refl _) (by omega))
 gi_wp2
 gi_loopw [6] (fun v wr => ∃ x : Int, v = .int .i64 x ∧ Aside0 (-1 ≤ x ∧ x < (l0.length : Int)) ∧ Aside0 (∃ o : List Int, o.length = l0.length ∧ wr.ownsRow w.heap.size 3 1 (.slice (some ⟨w.heap.size, 0, none⟩) l0.length l0.length) l0.length (encs (Value.int .i64) o) ∧ sizesL l0 c (x + 1).toNat o = sizesP l0 c) ∧ Aside0 (Below w.heap.size w wr))
  (fun v _ => (intOf v + 1).toNat)
 case atStart =>
  exact ⟨(l0.length : Int) - 1, by first | rfl | (congr 1; omega) | (simp; omega), ⟨by omega, by omega⟩, ⟨List.replicate l0.length 0, by simp, HO.out, by rw [show ((l0.length : Int) - 1 + 1).toNat = l0.length by omega]; rfl⟩, ⟨(Below.refl _ w).alloc (Nat.le_refl _) _⟩⟩
 case round =>
  obtain ⟨x, rfl, HX, HJ, HB⟩ := hrel
  clear hmk
  by_cases hx : 0 ≤ x
  case neg =>
   have hxb := decide_eq_false hx
   have HN := a_ hx
   clear hx
   gi_wp2
   go_ret
   obtain ⟨o, ho, hrow, hsz⟩ := HJ.out
   rw [show (x + 1).toNat = 0 by have := HX.out; have := HN.out; omega, sizesL] at hsz
   subst hsz
   exact ⟨_, rfl, Kd.R_of_own (by rw [ho]; exact hrow) (fun _ _ => trivial), HB.out⟩
  have hxb := decide_eq_true hx
  have hlt : x < (l0.length : Int) := HX.out.2
  obtain ⟨o, ho, hrow, hsz⟩ := HJ.out
  obtain ⟨hcx, hfx⟩ := own_at_of (d := (0 : Int)) hrow x hx hlt
  have HR := a_ (And.intro ho (And.intro hrow (And.intro hsz hx)))
  clear ho hrow hsz
  replace hlt := eq_true hlt
  replace hx := eq_true hx
  have HQ := a_ (fun k => HCC.out x (wr.drewN k) (of_eq_true hx) (of_eq_true hlt) (below_dn HB.out k))
  gi_wp2
  refine wpIn_region_head 9 rfl hmix (by kernel_rfl) ?_
  simp only [List.take_succ_cons, List.take_zero, List.drop_succ_cons, List.drop_zero]
  iterate 6 (quiet_step_in (fail))
  quiet_step_in (exact ⟨fun _ => by omega, CallsIn.quiet_of (callsIn_wide.2 (HQ.out _))⟩)
  iterate 2 (quiet_step_in (fail))
  refine wpQuietIn_nil ?_
  intro _ hw'
  obtain ⟨nq, hw''⟩ := hw'
  subst hw''
  by_cases hx1 : 0 < x
  case neg =>
   have hx1b := decide_eq_false hx1
   gi_wp2
   obtain ⟨ho, hrow, hsz, hX⟩ := HR.out
   have hst := (own_store_of (enc := Value.int .i64) (W := wr.drewN nq) hrow x (wrap64 (rdOf 0 o x + c x))).1
   have hb2 : Below w.heap.size w ((wr.drewN nq).setCell ⟨w.heap.size, x.toNat, none⟩ (Value.int .i64 (wrap64 (rdOf 0 o x + c x)))) := (below_dn HB.out nq).setCell (p := ⟨w.heap.size, x.toNat, none⟩) (Nat.le_refl _) _
   obtain rfl : x = 0 := by omega
   rw [show wrap64 ((0 : Int) - 1) = -1 from by unfold wrap64; omega]
   refine ⟨⟨-1, rfl, ⟨by omega, by omega⟩, ⟨_, by simpa using ho, hst, ?_⟩, ⟨hb2⟩⟩, by decide⟩
   rw [← hsz]
   rfl
  have hx1b := decide_eq_true hx1
  gi_wp2
  obtain ⟨ho, hrow, hsz, _⟩ := HR.out
  have hst := (own_store_of (enc := Value.int .i64) (W := wr.drewN nq) hrow x (wrap64 (rdOf 0 o x + c x))).1
  have hb2 : Below w.heap.size w ((wr.drewN nq).setCell ⟨w.heap.size, x.toNat, none⟩ (Value.int .i64 (wrap64 (rdOf 0 o x + c x)))) := (below_dn HB.out nq).setCell (p := ⟨w.heap.size, x.toNat, none⟩) (Nat.le_refl _) _
  obtain ⟨W2, hW2⟩ : ∃ W2, (wr.drewN nq).setCell ⟨w.heap.size, x.toNat, none⟩ (Value.int .i64 (wrap64 (rdOf 0 o x + c x))) = W2 := ⟨_, rfl⟩
  obtain ⟨o1, ho1⟩ : ∃ o1, o1 = o.set x.toNat (wrap64 (rdOf 0 o x + c x)) := ⟨_, rfl⟩
  rw [hW2] at hst hb2 ⊢
  rw [← ho1] at hst
  have hX := HR.out.2.2.2
  have hpx := HPP.out x hX (of_eq_true hlt)
  obtain ⟨ad, A2, c2, e0, g0, g1, g2, g3, hl2, hi2⟩ := at_T40 HC.out x hX (of_eq_true hlt)
  cases e0
  replace g1 := (hb2.cell (World.block_lt_of_cell? w _ g1)).trans g1
  have hp0 : 0 ≤ (rd_T40 l0 x).f1 := by omega
  have hp1 : (rd_T40 l0 x).f1 < (l0.length : Int) := by have := of_eq_true hlt; omega
  obtain ⟨hc1, hf1⟩ := own_at_of (d := (0 : Int)) hst x hX (of_eq_true hlt)
  obtain ⟨hc2, hf2⟩ := own_at_of (d := (0 : Int)) hst (rd_T40 l0 x).f1 hp0 hp1
  have HS := a_ (And.intro hst (And.intro hb2 (And.intro ho1 (And.intro hp0 (And.intro hp1 hx1)))))
  clear hst hb2 hW2 ho1 hpx g0 g2 g3 hl2 hi2 hcx hfx ho hrow hsz hX hx1 hx1b
  replace hp0 := eq_true hp0
  replace hp1 := eq_true hp1
  refine wpIn_region_head 14 rfl hmix (by kernel_rfl) ?_
  simp only [List.take_succ_cons, List.take_zero, List.drop_succ_cons, List.drop_zero]
  iterate 14 (quiet_step_in (fail))
  refine wpQuietIn_nil ?_
  intro _ hw'
  obtain ⟨nq2, hw''⟩ := hw'
  subst hw''
  gi_wp2
  obtain ⟨hst, hb2, ho1, hp0', hp1', hx1'⟩ := HS.out
  obtain ⟨ho, hrow, hsz, hX⟩ := HR.out
  have hw1 : wrap64 (x - 1) = x - 1 := by have := HX.out; unfold wrap64; omega
  rw [hw1]
  refine ⟨⟨x - 1, rfl, ⟨by omega, by have := HX.out; omega⟩, ⟨_, by rw [List.length_set, ho1, List.length_set]; exact ho, (own_store_of (enc := Value.int .i64) (W := W2.drewN nq2) hst (rd_T40 l0 x).f1 _).1, ?_⟩, ⟨(below_dn hb2 nq2).setCell (p := ⟨w.heap.size, (rd_T40 l0 x).f1.toNat, none⟩) (Nat.le_refl _) _⟩⟩, by simp only [intOf]; omega⟩
  rw [← hsz, show (x + 1).toNat = x.toNat + 1 by omega, show (x - 1 + 1).toNat = x.toNat by omega, sizesL]
  simp only [show ((x.toNat : Nat) : Int) = x by omega]
  rw [if_pos (show 0 < x.toNat by omega), ho1]
  rfl
end

set_option maxHeartbeats 8000000
set_option maxRecDepth 100000
attribute [local go_sem] max2_int min2_int max_two min_two max_three min_three max_four min_four   -- for this text's walks alone
set_option linter.unusedVariables false
set_option linter.unusedSimpArgs false

def openB (d : List Bool) (ms : List Int) (i : Int) : Bool := rdOf false d i && (rd ms i == 0)
def oneB (d : List Bool) (ms : List Int) (i : Int) : Int := if openB d ms i = true then 1 else 0
def szH (ns : List S40) (d : List Bool) (ms : List Int) : List Int := sizesP ns (oneB d ms)
def offW (x m : Int) : Int := mx (wrap64 (wrap64 (2 * x) - m)) (wrap64 (m - wrap64 (2 * x)))
theorem off_calls (x m : Int) (W : World) : Calls Tryz.prog 29 #[.int .i64 x, .int .i64 m] W fun e W' => e = .returned (.int .i64 (offW x m)) ∧ W' = W := by
 unfold offW mx
 by_cases c : wrap64 (wrap64 (2 * x) - m) < wrap64 (m - wrap64 (2 * x))
 case pos =>
  rw [if_pos c]
  go_enter Tryz.func29, Tryz.ntmps29
  go_wp2
  go_ret
  exact ⟨rfl, rfl⟩
 rw [if_neg c]
 go_enter Tryz.func29, Tryz.ntmps29
 go_wp2
 go_ret
 exact ⟨rfl, rfl⟩
def bestH (sz : List Int) (d : List Bool) (ms : List Int) (m : Int) : Nat → Int
 | 0 => -1
 | n + 1 => if openB d ms (n : Int) = true ∧ (bestH sz d ms m n < 0 ∨ offW (rd sz (n : Int)) m < offW (rd sz (bestH sz d ms m n)) m) then (n : Int) else bestH sz d ms m n
theorem bestH_range (sz : List Int) (d : List Bool) (ms : List Int) (m : Int) : ∀ n : Nat, -1 ≤ bestH sz d ms m n ∧ bestH sz d ms m n < (n : Int)
 | 0 => ⟨Int.le_refl _, by show (-1 : Int) < 0; omega⟩
 | n + 1 => by
  have := bestH_range sz d ms m n
  rw [bestH]
  split <;> omega
def parB (ns : List S40) : Bool := (List.range ns.length).all fun i => decide ((0 ≤ (rd_T40 ns (i : Int)).f1 ∧ (rd_T40 ns (i : Int)).f1 < (i : Int)) ∨ ((i : Int) = 0 ∧ (rd_T40 ns (i : Int)).f1 = -1))
theorem parB_at {ns : List S40} (h : parB ns = true) (i : Int) (h0 : 0 ≤ i) (h1 : i < (ns.length : Int)) : ((0 ≤ (rd_T40 ns i).f1 ∧ (rd_T40 ns i).f1 < i) ∨ (i = 0 ∧ (rd_T40 ns i).f1 = -1)) := by
 have := of_decide_eq_true (List.all_eq_true.1 h i.toNat (List.mem_range.2 (by omega)))
 rw [show ((i.toNat : Nat) : Int) = i by omega] at this
 exact this
def half_Ask.f (k : Nat) (l0 : List S40) (l1 : List Int) : Option (Int × Int) :=
 if 0 < l0.length ∧ l0.length ≤ 512 ∧ l1.length = l0.length ∧ parB l0 = true then
  (if rd l1 0 = 2 then (half_last.f k l1).bind fun w => (half_doubts.f k l0 l1 w).bind fun d =>
   if 0 ≤ w ∧ w < (l0.length : Int) ∧ d.length = l0.length then
    (if bestH (szH l0 d l1) d l1 (rd (szH l0 d l1) w) l0.length < 0 then top_Bug.f l0 l1 w else some (0, bestH (szH l0 d l1) d l1 (rd (szH l0 d l1) w) l0.length)) else none
  else top_Ask.f k l0 l1) else none
theorem open_calls (W : World) (Bd Bm : Nat) (d : List Bool) (ms : List Int) (Ad : Option Addr) (cd : Nat) (A1 : Option Addr) (c1 : Nat) (hd : W.cell? ⟨Bd, 0, none⟩ = some (.slice Ad d.length cd)) (hm : W.cell? ⟨Bm, 0, none⟩ = some (.slice A1 ms.length c1))
 (hD : Kd.C Kd.bool W Ad d.length d) (hM : Kd.C (Kd.int .i64) W A1 ms.length ms) (i : Int) (h0 : 0 ≤ i) (h1 : i < (d.length : Int)) (h2 : i < (ms.length : Int)) :
 Calls Tryz.prog 26 #[.int .i64 i, .pointer (some ⟨Bd, 0, none⟩), .pointer (some ⟨Bm, 0, none⟩)] W fun e W' => e = .returned (.bool (openB d ms i)) ∧ W' = W := by
 obtain ⟨ad, e0, g0⟩ := Kd.at_bool hD i h0 h1
 cases e0
 obtain ⟨am, e1, g1⟩ := Kd.at_int hM i h0 h2
 cases e1
 unfold openB
 clear hD hM
 replace h0 := eq_true h0
 replace h1 := eq_true h1
 replace h2 := eq_true h2
 cases hb : rdOf false d i with
 | true =>
  rw [hb] at g0
  rw [Bool.true_and]
  go_enter Tryz.func26, Tryz.ntmps26
  go_wp2
  go_ret
  exact ⟨rfl, rfl⟩
 | false =>
  rw [hb] at g0
  rw [Bool.false_and]
  go_enter Tryz.func26, Tryz.ntmps26
  go_wp2
  go_ret
  exact ⟨rfl, rfl⟩
theorem one_calls (W : World) (Bf Bd Bm : Nat) (d : List Bool) (ms : List Int) (Ad : Option Addr) (cd : Nat) (A1 : Option Addr) (c1 : Nat) (hf : W.cell? ⟨Bf, 0, none⟩ = some (.func (.func 26) #[] #[.pointer (some ⟨Bd, 0, none⟩), .pointer (some ⟨Bm, 0, none⟩)])) (hd : W.cell? ⟨Bd, 0, none⟩ = some (.slice Ad d.length cd)) (hm : W.cell? ⟨Bm, 0, none⟩ = some (.slice A1 ms.length c1))
 (hD : Kd.C Kd.bool W Ad d.length d) (hM : Kd.C (Kd.int .i64) W A1 ms.length ms) (i : Int) (h0 : 0 ≤ i) (h1 : i < (d.length : Int)) (h2 : i < (ms.length : Int)) :
 Calls Tryz.prog 28 #[.int .i64 i, .pointer (some ⟨Bf, 0, none⟩)] W fun e W' => e = .returned (.int .i64 (oneB d ms i)) ∧ ∃ m, W' = W.drewN m := by
 have h : Calls Tryz.prog 28 #[.int .i64 i, .pointer (some ⟨Bf, 0, none⟩)] W fun e W' => e = .returned (.int .i64 (oneB d ms i)) ∧ W' = W := by
  have HO := a_ (open_calls W Bd Bm d ms Ad cd A1 c1 hd hm hD hM i h0 h1 h2)
  clear hd hm hD hM
  unfold oneB
  cases ho : openB d ms i with
  | true =>
   rw [ho] at HO
   rw [if_pos rfl]
   go_enter Tryz.func28, Tryz.ntmps28
   go_wp2_with (first
    | (go_at_call 26; refine HO.out.mono ?_; rintro e w5 ⟨rfl, rfl⟩))
   go_ret
   exact ⟨rfl, rfl⟩
  | false =>
   rw [ho] at HO
   rw [if_neg Bool.false_ne_true]
   go_enter Tryz.func28, Tryz.ntmps28
   go_wp2_with (first
    | (go_at_call 26; refine HO.out.mono ?_; rintro e w5 ⟨rfl, rfl⟩))
   go_ret
   exact ⟨rfl, rfl⟩
 exact h.mono fun e W' ⟨h1, h2⟩ => ⟨h1, 0, h2⟩
def Half8 (w : World) (am : Addr) (c1 : Nat) (l1 : List Int) (Ad : Option Addr) (cd : Nat) (d : List Bool) (Bd Bf : Nat) (w8 : World) : Prop :=
 (Below w.heap.size w w8 ∧ Boxed w8 w.heap.size 23 (.slice (some am) l1.length c1) ∧ Boxed2 w8 (w.heap.size + 1) 27 (.int .i64 0) (.int .i64 0)) ∧
 (Boxed w8 Bd 48 (.slice Ad d.length cd) ∧ Boxed w8 Bf 44 (.func (.func 26) #[] #[.pointer (some ⟨Bd, 0, none⟩), .pointer (some ⟨w.heap.size, 0, none⟩)])) ∧ Kd.C Kd.bool w8 Ad d.length d ∧ Kd.C (Kd.int .i64) w8 (some am) l1.length l1
theorem half_sizes (n : Nat) (hn : 2 ≤ n) (w W2 w6 W6a W7 : World) (nd : Nat) (A0 : Option Addr) (c0 : Nat) (l0 : List (S40)) (am : Addr) (c1 : Nat) (l1 : List Int) (Ad : Option Addr) (cd : Nat) (d : List Bool)
 (hr0 : Kd.C k40 w A0 l0.length l0) (hr1 : Kd.C (Kd.int .i64) w (some am) l1.length l1) (h512 : l0.length ≤ 512) (hp : parB l0 = true) (hl : l1.length = l0.length) (hdl : d.length = l0.length)
 (h2 : Below w.heap.size w W2 ∧ Boxed W2 w.heap.size 23 (.slice (some am) l1.length c1) ∧ Boxed2 W2 (w.heap.size + 1) 27 (.int .i64 0) (.int .i64 0))
 (hR6 : Kd.R Kd.bool 4 w6 (W2.drewN nd).heap.size (fun _ => True) (.slice Ad d.length cd) d) (hb6 : Below (W2.drewN nd).heap.size (W2.drewN nd) w6)
 (h6a : (w6.alloc (.cells #[.slice none 0 0] 48)).setCell ⟨w6.heap.size, 0, none⟩ (.slice Ad d.length cd) = W6a)
 (h7 : W6a.alloc (.cells #[.func (.func 26) #[] #[.pointer (some ⟨w6.heap.size, 0, none⟩), .pointer (some ⟨w.heap.size, 0, none⟩)]] 44) = W7) :
 CallsIn Fence.wide n Tryz.prog 27 #[.slice A0 l0.length c0, .func (.func 28) #[] #[.pointer (some ⟨W6a.heap.size, 0, none⟩)]] W7 fun e w8 =>
  ∃ Az cz, e = .returned (.slice Az l0.length cz) ∧ Kd.C (Kd.int .i64) w8 Az l0.length (szH l0 d l1) ∧ Half8 w am c1 l1 Ad cd d w6.heap.size W6a.heap.size w8 := by
 have sz : ∀ (W : World) (p : Addr) (v : Value), (W.setCell p v).heap.size = W.heap.size := fun W p v => by show (W.heap.modify _ _).size = _; rw [Array.size_modify]
 have e6 : W6a.heap.size = w6.heap.size + 1 := by rw [← h6a, sz]; simp
 have e7 : W7.heap.size = w6.heap.size + 2 := by rw [← h7, World.size_alloc, e6]
 have s2 := h2.2.2.lt
 have s6 : W2.heap.size ≤ w6.heap.size := hb6.size
 have B6a : Below w6.heap.size w6 W6a := by rw [← h6a]; exact ((Below.refl _ w6).alloc (Nat.le_refl _) _).setCell (p := ⟨w6.heap.size, 0, none⟩) (Nat.le_refl _) _
 have B7 : Below w6.heap.size w6 W7 := by rw [← h7]; exact B6a.alloc (by omega) _
 have bd6 : Boxed W6a w6.heap.size 48 (.slice Ad d.length cd) := by rw [← h6a]; exact (Boxed.new w6 _ _).set _
 have bd : Boxed W7 w6.heap.size 48 (.slice Ad d.length cd) := by rw [← h7]; exact bd6.alloc _
 have bf : Boxed W7 W6a.heap.size 44 (.func (.func 26) #[] #[.pointer (some ⟨w6.heap.size, 0, none⟩), .pointer (some ⟨w.heap.size, 0, none⟩)]) := by rw [← h7]; exact Boxed.new W6a _ _
 have hB6 : Below w.heap.size w w6 := (below_dn h2.1 nd).trans (hb6.mono h2.1.size)
 have hB7 : Below w.heap.size w W7 := hB6.trans (B7.mono hB6.size)
 have m6 : Boxed w6 w.heap.size 23 (.slice (some am) l1.length c1) := (hb6.block _ (by show w.heap.size < W2.heap.size; omega)).trans h2.2.1
 have r6 : Boxed2 w6 (w.heap.size + 1) 27 (.int .i64 0) (.int .i64 0) := (hb6.block _ (by show w.heap.size + 1 < W2.heap.size; omega)).trans h2.2.2
 have m7 : Boxed W7 w.heap.size 23 (.slice (some am) l1.length c1) := (B7.block _ (by omega)).trans m6
 have r7 : Boxed2 W7 (w.heap.size + 1) 27 (.int .i64 0) (.int .i64 0) := (B7.block _ (by omega)).trans r6
 have d7 : Kd.C Kd.bool W7 Ad d.length d := Kd.C_below (Kd.R_reads' hR6).2.2 B7
 have c7 : Kd.C (Kd.int .i64) W7 (some am) l1.length l1 := Kd.C_below hr1 hB7
 refine (tree_Sizes.in_ n hn 28 #[.pointer (some ⟨W6a.heap.size, 0, none⟩)] (enters_of Tryz.func28 (by kernel_rfl) rfl) (oneB d l1) A0 c0 l0 h512 (parB_at hp) W7 (Kd.C_below hr0 hB7)
  (fun i W h0 h1 hb => one_calls W W6a.heap.size w6.heap.size w.heap.size d l1 Ad cd (some am) c1 (Boxed.cell (show Boxed W W6a.heap.size _ _ from (hb.block _ (by omega)).trans bf)) (Boxed.cell (show Boxed W w6.heap.size _ _ from (hb.block _ (by omega)).trans bd)) (Boxed.cell (show Boxed W w.heap.size _ _ from (hb.block _ (by omega)).trans m7)) (Kd.C_below d7 hb) (Kd.C_below c7 hb) i h0 (by omega) (by omega))).mono ?_
 rintro e w8 ⟨v, rfl, hr, hb⟩
 obtain ⟨Az, cz, rfl, hlz, hC⟩ := Kd.R_reads hr
 have hlen : (szH l0 d l1).length = l0.length := by show (sizesP l0 (oneB d l1)).length = _; unfold sizesP; rw [sizesL_len, List.length_replicate]
 have hC' : Kd.C (Kd.int .i64) w8 Az (szH l0 d l1).length (szH l0 d l1) := hC
 rw [hlen] at hC'
 have e9 : (sizesP l0 (oneB d l1)).length = l0.length := hlen
 refine ⟨Az, cz, by rw [e9], hC', ⟨hB7.trans (hb.mono hB7.size), (hb.block _ (by omega)).trans m7, (hb.block _ (by omega)).trans r7⟩, ⟨(hb.block _ (by omega)).trans bd, (hb.block _ (by omega)).trans bf⟩, Kd.C_below d7 hb, Kd.C_below c7 hb⟩
theorem run_store_func (P : Program) (w : World) (a : Addr) (m : Mode) (f : Fn) (x y : Array Value) : (store a (.func f x y) m).run P w = stored P w a (.func f x y) m := run_store P w a _ m rfl
section
attribute [local go_sem] Oper.semAt_some run_store_func
theorem half_Ask.inW (n : Nat) (hn : 4 ≤ n) (k : Nat) (A0 : Option Addr) (c0 : Nat) (l0 : List (S40)) (A1 : Option Addr) (c1 : Nat) (l1 : List Int) (wg : Int) (d : List Bool) (r1 r2 : Int) (w : World) (hr0 : Kd.C k40 w A0 l0.length l0) (hc0 : l0.length ≤ c0) (hr1 : Kd.C (Kd.int .i64) w A1 l1.length l1) (hc1 : l1.length ≤ c1)
 (h0 : rd l1 0 = 2) (hn0 : 0 < l0.length) (h512 : l0.length ≤ 512) (hl : l1.length = l0.length) (hp : parB l0 = true) (hL : half_last.f k l1 = some wg) (hD : half_doubts.f k l0 l1 wg = some d) (hw0 : 0 ≤ wg) (hw1 : wg < (l0.length : Int)) (hdl : d.length = l0.length)
 (hr : (if bestH (szH l0 d l1) d l1 (rd (szH l0 d l1) wg) l0.length < 0 then top_Bug.f l0 l1 wg else some (0, bestH (szH l0 d l1) d l1 (rd (szH l0 d l1) wg) l0.length)) = some (r1, r2)) :
 CallsIn Fence.wide n Tryz.prog 14 #[.slice A0 l0.length c0, .slice A1 l1.length c1] w fun e w' => e = .returned (.agg #[.int .i64 r1, .int .i64 r2]) ∧ Below w.heap.size w w' := by
 have hn1 : 1 ≤ n := by omega
 obtain ⟨am, e, g⟩ := Kd.at_int hr1 0 (by omega) (by omega)
 cases e
 have HR0 := a_ hr0
 have HC0 := a_ hc0
 have HR1 := a_ hr1
 have HC1 := a_ hc1
 have HL := a_ hL
 have HD := a_ hD
 have HRR := a_ hr
 have HM := a_ (And.intro hw0 (And.intro hw1 (And.intro hl (And.intro h512 (And.intro hdl (And.intro hn0 hp))))))
 have hmix : Tryz.prog.follows .mixedOrders = true := by kernel_rfl
 have hu := Tryz.underlying27
 have hB2 : Below w.heap.size w ((w.alloc (.cells #[.slice (some am) l1.length c1] 23)).alloc (.cells #[.int .i64 0, .int .i64 0] 27)) := ((Below.refl _ w).alloc (Nat.le_refl _) _).alloc (by simp) _
 have bx0 := ((Boxed.new w 23 (.slice (some am) l1.length c1)).alloc (.cells #[.int .i64 0, .int .i64 0] 27))
 have bx1 := Boxed2.new (w.alloc (.cells #[.slice (some am) l1.length c1] 23)) 27 (.int .i64 0) (.int .i64 0)
 simp only [World.size_alloc] at bx1
 have g1 := (hB2.cell (World.block_lt_of_cell? w _ g)).trans g
 rw [h0] at g1
 have cb := bx0.cell
 have HB2 := a_ (And.intro hB2 (And.intro bx0 bx1))
 have hpos : ((0 : Int) < (l1.length : Int)) = True := eq_true (by omega)
 have hposn : (0 < l1.length) = True := eq_true (by omega)
 clear hr0 hc0 hr1 hc1 hL hD hr hw0 hw1 hl h512 hdl hn0 hp g h0 bx0 bx1 hB2
 obtain ⟨W2, hW2⟩ : ∃ W2, (w.alloc (.cells #[.slice (some am) l1.length c1] 23)).alloc (.cells #[.int .i64 0, .int .i64 0] 27) = W2 := ⟨_, rfl⟩
 rw [hW2] at g1 cb HB2
 rw [show am.add (Int.toNat 0) = am from by cases am; rfl] at g1
 refine callsIn_of_wp Tryz.func14 rfl trivial ?_ rfl
 simp only [Tryz.ntmps14, List.size_toArray, List.length_cons, List.length_nil, Nat.reduceAdd, Nat.reduceSub, Array.replicate_succ, Array.replicate_zero, List.push_toArray, List.append_toArray, List.nil_append, List.cons_append]
 have ff1 : Fence.wide.fn 24 := trivial
 have ff2 : Fence.wide.fn 25 := trivial
 have ff3 : Fence.wide.fn 27 := trivial
 have ff4 : Fence.wide.fn 26 := trivial
 have ff5 : Fence.wide.fn 29 := trivial
 have ff6 : Fence.wide.fn 30 := trivial
 have ls2 : w.heap.size + 1 < W2.heap.size := HB2.out.2.2.lt
 have LS2 := a_ ls2
 clear ls2
 gi_wp2_with (first
  | (gi_at_call 24; refine ((callsIn_wide (n := n - 1)).2 (half_last.calls k _ _ l1 wg _ (Kd.C_below HR1.out HB2.out.1) HC1.out HL.out)).mono ?_; rintro e w5 ⟨rfl, ⟨nd, rfl⟩⟩; have cb5 : (W2.drewN nd).cell? ⟨w.heap.size, 0, none⟩ = some (.slice (some am) l1.length c1) := HB2.out.2.1.cell)
  | (gi_at_call 25; refine ((callsIn_wide (n := n - 1)).2 (half_doubts.calls k _ _ l0 _ _ l1 wg d _ (Kd.C_below HR0.out (below_dn HB2.out.1 _)) HC0.out (Kd.C_below HR1.out (below_dn HB2.out.1 _)) HC1.out HD.out)).mono ?_; rintro e w6 ⟨v6, rfl, hR6, hb6⟩; obtain ⟨Ad, cd, e6⟩ := Kd.R_slice hR6; subst e6; have cb6 : w6.cell? ⟨w.heap.size, 0, none⟩ = some (.slice (some am) l1.length c1) := (hb6.cell (p := ⟨w.heap.size, 0, none⟩) (Nat.lt_of_succ_lt LS2.out)).trans HB2.out.2.1.cell; have HX6 := a_ (And.intro hR6 hb6); clear hR6 hb6; obtain ⟨W6a, hW6a⟩ : ∃ W6a, (w6.alloc (.cells #[.slice none 0 0] 48)).setCell ⟨w6.heap.size, 0, none⟩ (.slice Ad d.length cd) = W6a := ⟨_, rfl⟩)
  | (gi_at_call 27; generalize hW7 : World.alloc _ _ = W7; refine (half_sizes (n - 1) (by omega) w W2 w6 W6a W7 _ A0 c0 l0 am c1 l1 Ad cd d HR0.out HR1.out HM.out.2.2.2.1 HM.out.2.2.2.2.2.2 HM.out.2.2.1 HM.out.2.2.2.2.1 HB2.out HX6.out.1 HX6.out.2 hW6a hW7).mono ?_; rintro e w8 ⟨Az, cz, rfl, hz8, h8⟩; obtain ⟨az, e8, g8⟩ := Kd.at_int hz8 wg HM.out.1 HM.out.2.1; subst e8; have p8 := eq_true HM.out.1; have q8 := eq_true HM.out.2.1; have HZ := a_ (And.intro hz8 h8); clear hz8 h8 hW7 hW6a cb cb5 cb6 g1 hpos hposn hW2))
 clear g8 p8 q8
 obtain ⟨sz, hsz⟩ : ∃ sz, szH l0 d l1 = sz := ⟨_, rfl⟩
 rw [hsz] at HZ HRR
 simp only [hsz]
 obtain ⟨m, hm⟩ : ∃ m, rd sz wg = m := ⟨_, rfl⟩
 rw [hm] at HRR
 simp only [hm]
 gi_loopw [10, 36] (fun v10 v36 wr => ∃ b x : Int, v10 = .int .i64 b ∧ v36 = .int .i64 x ∧ Aside0 (0 ≤ x ∧ x ≤ (l0.length : Int)) ∧ Aside0 (b = bestH sz d l1 m x.toNat ∧ ∃ q, wr = w8.drewN q))
  (fun _ v _ => l0.length - (intOf v).toNat)
 case atStart => exact ⟨-1, 0, by first | rfl | (congr 1; omega), by first | rfl | (congr 1; omega), ⟨by omega, by omega⟩, ⟨rfl, 0, rfl⟩⟩
 case round =>
  obtain ⟨b, x, rfl, rfl, HX, HBq⟩ := hrel
  obtain ⟨hb, q, hq⟩ := HBq.out
  have hbr := bestH_range sz d l1 m x.toNat
  rw [← hb] at hbr
  obtain ⟨⟨hB8, bm8, br8⟩, ⟨bd8, bf8⟩, hd8, hc8⟩ := HZ.out.2
  have hz8 := HZ.out.1
  by_cases hlt : x < (l0.length : Int)
  case neg =>
   have hltb := decide_eq_false hlt
   have hxl : x.toNat = l0.length := by have := HX.out; omega
   rw [hxl] at hb
   clear hbr
   rw [← hb] at HRR
   have hm' : wr.cell? ⟨w.heap.size, 0, none⟩ = some (.slice (some am) l1.length c1) := by rw [hq]; exact bm8.cell
   have hr' : Boxed2 wr (w.heap.size + 1) 27 (.int .i64 0) (.int .i64 0) := by rw [hq]; exact br8
   have hB' : Below w.heap.size w wr := by rw [hq]; exact below_dn hB8 q
   have HE := a_ (And.intro hr' hB')
   clear hlt hq hz8 hB8 bm8 br8 bd8 bf8 hd8 hc8 hxl
   have f0_ := hr'.f0
   have f1_ := hr'.f1
   have c0_ := hr'.c0
   have c1_ := hr'.c1
   clear hr' hB'
   by_cases hb0 : b < 0
   case neg =>
    have hrr := HRR.out
    rw [if_neg hb0] at hrr
    clear hb HBq
    obtain ⟨e1_, e2_⟩ := Prod.mk.inj (Option.some.inj hrr)
    subst e1_
    subst e2_
    have hb0b := decide_eq_false hb0
    clear hb0 hrr HRR
    gi_wp2
    refine bodyPost_ret (results_cell_row rfl _ _ (w.heap.size + 1) 27 #[.int .i64 0, .int .i64 b] (0, 0) _ rfl (HE.out.1.put _ _) Tryz.underlying27 rfl (by kernel_rfl)) rfl ⟨rfl, ?_⟩
    exact (HE.out.2.setCell (p := ⟨w.heap.size + 1, 0, none⟩) (Nat.le_succ _) _).setCell (p := ⟨w.heap.size + 1, 1, none⟩) (Nat.le_succ _) _
   have hb0b := decide_eq_true hb0
   have hrr := HRR.out
   rw [if_pos hb0] at hrr
   have HB0 := a_ hrr
   clear hb0 hrr hb
   gi_wp2_with (first
    | (gi_at_call 30; refine ((callsIn_wide (n := n - 1)).2 (top_Bug.calls _ _ l0 _ _ l1 wg r1 r2 _ (Kd.C_below HR0.out HE.out.2) HC0.out (Kd.C_below HR1.out HE.out.2) HC1.out HB0.out)).mono ?_; rintro e w9 ⟨rfl, hb9⟩; have hr9 : Boxed2 w9 (w.heap.size + 1) 27 (.int .i64 0) (.int .i64 0) := (hb9.block _ HE.out.1.lt).trans HE.out.1; have HE9 := a_ (And.intro hr9 (HE.out.2.trans (hb9.mono HE.out.2.size))); have f90 := hr9.f0; have f91 := hr9.f1; have c90 := hr9.c0; have c91 := hr9.c1; clear hr9 hb9))
   refine bodyPost_ret (results_cell_row rfl _ _ (w.heap.size + 1) 27 #[.int .i64 r1, .int .i64 r2] (0, 0) _ rfl (HE9.out.1.put _ _) Tryz.underlying27 rfl (by kernel_rfl)) rfl ⟨rfl, ?_⟩
   exact (HE9.out.2.setCell (p := ⟨w.heap.size + 1, 0, none⟩) (Nat.le_succ _) _).setCell (p := ⟨w.heap.size + 1, 1, none⟩) (Nat.le_succ _) _
  have hltb := decide_eq_true hlt
  have hx0 : 0 ≤ x := HX.out.1
  obtain ⟨az', e9, g9⟩ := Kd.at_int hz8 x hx0 hlt
  cases e9
  have g9' : wr.cell? (az.add x.toNat) = some (.int .i64 (rd sz x)) := by rw [hq]; exact g9
  have cf : wr.cell? ⟨W6a.heap.size, 0, none⟩ = some (.func (.func 26) #[] #[.pointer (some ⟨w6.heap.size, 0, none⟩), .pointer (some ⟨w.heap.size, 0, none⟩)]) := by rw [hq]; exact bf8.cell
  have HQ := a_ (fun k => (open_calls (wr.drewN k) w6.heap.size w.heap.size d l1 Ad cd (some am) c1 (by rw [hq]; exact bd8.cell) (by rw [hq]; exact bm8.cell) (by rw [hq]; exact hd8) (by rw [hq]; exact hc8) x hx0 (by have := HM.out.2.2.2.2.1; omega) (by have := HM.out.2.2.1; omega)).mono (R' := fun e W' => e = .returned (.bool (openB d l1 x)) ∧ ∃ m, W' = (wr.drewN k).drewN m) (fun e W' ⟨h1, h2⟩ => ⟨h1, 0, h2⟩))
  have HF := a_ (fun (y : Int) k => (off_calls y m (wr.drewN k)).mono (R' := fun e W' => e = .returned (.int .i64 (offW y m)) ∧ ∃ q, W' = (wr.drewN k).drewN q) (fun e W' ⟨h1, h2⟩ => ⟨h1, 0, h2⟩))
  have HK := a_ (And.intro hb (And.intro hq (And.intro hbr (And.intro hx0 hlt))))
  have hw1 : wrap64 (x + 1) = x + 1 := by have := HM.out.2.2.2.1; unfold wrap64; omega
  have HW := a_ hw1
  have hbx : bestH sz d l1 m (x + 1).toNat = if openB d l1 x = true ∧ (b < 0 ∨ offW (rd sz x) m < offW (rd sz b) m) then x else b := by
   rw [show (x + 1).toNat = x.toNat + 1 by omega, bestH, ← hb, show ((x.toNat : Nat) : Int) = x by omega]
  have HBX := a_ hbx
  have hms : l0.length - (x + 1).toNat < l0.length - x.toNat := by omega
  have HMS := a_ hms
  have hx9 : 0 ≤ x + 1 ∧ x + 1 ≤ (l0.length : Int) := by omega
  have HX9 := a_ hx9
  clear hb hq hbr hw1 hbx hms hx9 hz8 hB8 bm8 br8 bd8 bf8 hd8 hc8 g9
  replace hlt := eq_true hlt
  replace hx0 := eq_true hx0
  cases ho : openB d l1 x with
  | false =>
   rw [ho] at HQ HBX
   clear ho
   gi_wp2
   refine wpIn_region_quiet_lit rfl hmix (by kernel_rfl) ?_
   iterate 2 (quiet_step_in (fail))
   quiet_step_in (exact CallsIn.quiet_of (callsIn_wide.2 (HQ.out _)))
   quiet_step_in (fail)
   iterate 14 (refine BigFrame.wpQuietIn_skip (fun _ _ _ _ => trivial) (by first | rfl | kernel_rfl | simp [Region.wanted, yielded]) ?_; simp only [Act.put, List.setIfInBounds_toArray, List.set_cons_succ, List.set_cons_zero])
   quiet_step_in (fail)
   refine wpQuietIn_nil ?_
   intro _ hw'
   obtain ⟨nq, hw''⟩ := hw'
   subst hw''
   gi_wp2
   rw [HW.out]
   exact ⟨⟨b, x + 1, rfl, rfl, ⟨HX9.out⟩, ⟨by rw [HBX.out]; simp, q + nq, by rw [HK.out.2.1]; exact World.drewN_drewN _ _ _⟩⟩, by simp only [intOf]; exact HMS.out⟩
  | true =>
   rw [ho] at HQ HBX
   clear ho
   by_cases hb0 : b < 0
   case pos =>
    have hb0b := decide_eq_true hb0
    have HB0 := a_ hb0
    clear hb0
    gi_wp2
    refine wpIn_region_quiet_lit rfl hmix (by kernel_rfl) ?_
    iterate 2 (quiet_step_in (fail))
    quiet_step_in (exact CallsIn.quiet_of (callsIn_wide.2 (HQ.out _)))
    iterate 4 (quiet_step_in (fail))
    iterate 10 (refine BigFrame.wpQuietIn_skip (fun _ _ _ _ => trivial) (by first | rfl | kernel_rfl | simp [Region.wanted, yielded]) ?_; simp only [Act.put, List.setIfInBounds_toArray, List.set_cons_succ, List.set_cons_zero])
    iterate 2 (quiet_step_in (fail))
    refine wpQuietIn_nil ?_
    intro _ hw'
    obtain ⟨nq, hw''⟩ := hw'
    subst hw''
    gi_wp2
    rw [HW.out]
    exact ⟨⟨x, x + 1, rfl, rfl, ⟨HX9.out⟩, ⟨by rw [HBX.out]; simp [HB0.out], q + nq, by rw [HK.out.2.1]; exact World.drewN_drewN _ _ _⟩⟩, by simp only [intOf]; exact HMS.out⟩
   have hb0b := decide_eq_false hb0
   have hb1 : 0 ≤ b := by omega
   have hb2 : b < (l0.length : Int) := by have := HK.out.2.2.1.2; have := HX.out; omega
   obtain ⟨az'', e9, g10⟩ := Kd.at_int HZ.out.1 b hb1 hb2
   cases e9
   have g10' : wr.cell? (az.add b.toNat) = some (.int .i64 (rd sz b)) := by rw [HK.out.2.1]; exact g10
   have HB0 := a_ hb0
   clear hb0 g10
   replace hb1 := eq_true hb1
   replace hb2 := eq_true hb2
   obtain ⟨o1, ho1⟩ : ∃ o1, offW (rd sz x) m = o1 := ⟨_, rfl⟩
   obtain ⟨o2, ho2⟩ : ∃ o2, offW (rd sz b) m = o2 := ⟨_, rfl⟩
   have H1 := a_ (fun k => HF.out (rd sz x) k)
   have H2 := a_ (fun k => HF.out (rd sz b) k)
   rw [ho1] at H1 HBX
   rw [ho2] at H2 HBX
   by_cases hoo : o1 < o2
   case pos =>
    have hoob := decide_eq_true hoo
    have HOO := a_ hoo
    clear hoo ho1 ho2
    gi_wp2
    refine wpIn_region_quiet_lit rfl hmix (by kernel_rfl) ?_
    iterate 2 (quiet_step_in (fail))
    quiet_step_in (exact CallsIn.quiet_of (callsIn_wide.2 (HQ.out _)))
    iterate 6 (quiet_step_in (fail))
    quiet_step_in (exact CallsIn.quiet_of (callsIn_wide.2 (H1.out _)))
    iterate 5 (quiet_step_in (fail))
    quiet_step_in (exact CallsIn.quiet_of (callsIn_wide.2 (H2.out _)))
    iterate 3 (quiet_step_in (fail))
    refine wpQuietIn_nil ?_
    intro _ hw'
    obtain ⟨nq, hw''⟩ := hw'
    subst hw''
    gi_wp2
    rw [HW.out]
    exact ⟨⟨x, x + 1, rfl, rfl, ⟨HX9.out⟩, ⟨by rw [HBX.out]; simp [HOO.out], q + nq, by rw [HK.out.2.1]; exact World.drewN_drewN _ _ _⟩⟩, by simp only [intOf]; exact HMS.out⟩
   have hoob := decide_eq_false hoo
   have HOO := a_ hoo
   clear hoo ho1 ho2
   gi_wp2
   refine wpIn_region_quiet_lit rfl hmix (by kernel_rfl) ?_
   iterate 2 (quiet_step_in (fail))
   quiet_step_in (exact CallsIn.quiet_of (callsIn_wide.2 (HQ.out _)))
   iterate 6 (quiet_step_in (fail))
   quiet_step_in (exact CallsIn.quiet_of (callsIn_wide.2 (H1.out _)))
   iterate 5 (quiet_step_in (fail))
   quiet_step_in (exact CallsIn.quiet_of (callsIn_wide.2 (H2.out _)))
   iterate 3 (quiet_step_in (fail))
   refine wpQuietIn_nil ?_
   intro _ hw'
   obtain ⟨nq, hw''⟩ := hw'
   subst hw''
   gi_wp2
   rw [HW.out]
   exact ⟨⟨b, x + 1, rfl, rfl, ⟨HX9.out⟩, ⟨by rw [HBX.out, if_neg (fun h => by have h1 := HB0.out; have h2 := HOO.out; have h3 := h.2; omega)], q + nq, by rw [HK.out.2.1]; exact World.drewN_drewN _ _ _⟩⟩, by simp only [intOf]; exact HMS.out⟩
end
theorem half_Ask.calls (k : Nat) (A0 : Option Addr) (c0 : Nat) (l0 : List (S40)) (A1 : Option Addr) (c1 : Nat) (l1 : List Int) (r1 : Int) (r2 : Int) (w : World) (hr0 : Kd.C k40 w A0 l0.length l0) (hc0 : l0.length ≤ c0) (hr1 : Kd.C (Kd.int .i64) w A1 l1.length l1) (hc1 : l1.length ≤ c1) (h : half_Ask.f k l0 l1 = some (r1, r2)) (hG : GOK w) :
 Calls Tryz.prog 14 #[.slice A0 l0.length c0, .slice A1 l1.length c1] w fun e w' => e = .returned (.agg #[.int .i64 r1, .int .i64 r2]) ∧ Below w.heap.size w w' := by
 unfold half_Ask.f at h
 by_cases cg : 0 < l0.length ∧ l0.length ≤ 512 ∧ l1.length = l0.length ∧ parB l0 = true
 case neg =>
  rw [if_neg cg] at h; cases h

 rw [if_pos cg] at h
 by_cases c2 : rd l1 0 = 2
 case pos =>
  rw [if_pos c2] at h
  obtain ⟨wg, hL, h⟩ := Option.bind_eq_some_iff.mp h
  obtain ⟨d, hD, h⟩ := Option.bind_eq_some_iff.mp h
  by_cases cw : 0 ≤ wg ∧ wg < (l0.length : Int) ∧ d.length = l0.length
  case neg =>
   rw [if_neg cw] at h; cases h
  rw [if_pos cw] at h
  exact (callsIn_wide (n := 4)).1 (half_Ask.inW 4 (by omega) k A0 c0 l0 A1 c1 l1 wg d r1 r2 w hr0 hc0 hr1 hc1 c2 cg.1 cg.2.1 cg.2.2.1 cg.2.2.2 hL hD cw.1 cw.2.1 cw.2.2 h)
 rw [if_neg c2] at h
 obtain ⟨am, e, g⟩ := Kd.at_int hr1 0 (by omega) (by omega)
 cases e
 have HR0 := a_ hr0
 have HC0 := a_ hc0
 have HR1 := a_ hr1
 have HC1 := a_ hc1
 have HA := a_ h
 have hB2 : Below w.heap.size w ((w.alloc (.cells #[.slice (some am) l1.length c1] 23)).alloc (.cells #[.int .i64 0, .int .i64 0] 27)) := ((Below.refl _ w).alloc (Nat.le_refl _) _).alloc (by simp) _
 have bx0 := ((Boxed.new w 23 (.slice (some am) l1.length c1)).alloc (.cells #[.int .i64 0, .int .i64 0] 27))
 have bx1 := Boxed2.new (w.alloc (.cells #[.slice (some am) l1.length c1] 23)) 27 (.int .i64 0) (.int .i64 0)
 simp only [World.size_alloc] at bx1
 have g1 := (hB2.cell (World.block_lt_of_cell? w _ g)).trans g
 rw [show am.add (Int.toNat 0) = am from by cases am; rfl] at g1
 have cb := bx0.cell
 have HB2 := a_ (And.intro hB2 (And.intro bx0 bx1))
 have hpos : ((0 : Int) < (l1.length : Int)) = True := eq_true (by omega)
 have hposn : (0 < l1.length) = True := eq_true (by omega)
 have hne : (rd l1 0 != 2) = true := bne_iff_ne.2 c2
 have hu := Tryz.underlying27
 obtain ⟨W2, hW2⟩ : ∃ W2, (w.alloc (.cells #[.slice (some am) l1.length c1] 23)).alloc (.cells #[.int .i64 0, .int .i64 0] 27) = W2 := ⟨_, rfl⟩
 rw [hW2] at g1 cb HB2
 have HG := a_ hG
 clear hr0 hc0 hr1 hc1 h g bx0 bx1 hB2 cg c2 hG
 go_enter Tryz.func14, Tryz.ntmps14
 go_wp2_with (first
  | (go_at_call 23; (refine (top_Ask.calls k _ _ l0 _ _ l1 r1 r2 _ (Kd.C_below HR0.out HB2.out.1) HC0.out (Kd.C_below HR1.out HB2.out.1) HC1.out HA.out).mono ?_); rintro e w9 ⟨rfl, hb9⟩; have hr9 : Boxed2 w9 (w.heap.size + 1) 27 (.int .i64 0) (.int .i64 0) := (hb9.block _ HB2.out.2.2.lt).trans HB2.out.2.2; have HE9 := a_ (And.intro hr9 (HB2.out.1.trans (hb9.mono HB2.out.1.size))); have f90 := hr9.f0; have f91 := hr9.f1; have c90 := hr9.c0; have c91 := hr9.c1; clear hr9 hb9))
 refine bodyPost_ret (results_cell_row rfl _ _ (w.heap.size + 1) 27 #[.int .i64 r1, .int .i64 r2] (0, 0) _ rfl (HE9.out.1.put _ _) Tryz.underlying27 rfl (by kernel_rfl)) rfl ⟨rfl, ?_⟩
 exact (HE9.out.2.setCell (p := ⟨w.heap.size + 1, 0, none⟩) (Nat.le_succ _) _).setCell (p := ⟨w.heap.size + 1, 1, none⟩) (Nat.le_succ _) _
set_option maxHeartbeats 8000000
set_option maxRecDepth 100000
attribute [local go_sem] max2_int min2_int max_two min_two max_three min_three max_four min_four   -- for this text's walks alone
set_option linter.unusedVariables false
set_option linter.unusedSimpArgs false

def half_Next.f (k : Nat) (l0 : List (S40)) (l1 : List Int) : Option (Int × Int × Int) := (top_May.f k l0 l1).bind fun t178 => (if t178 = true then ((half_Ask.f k l0 l1).bind fun bt179 => (some (bt179.1, bt179.2, 0))) else (some (0, 0, 1900)))
theorem half_Next.calls (k : Nat) (A0 : Option Addr) (c0 : Nat) (l0 : List (S40)) (A1 : Option Addr) (c1 : Nat) (l1 : List Int) (r1 : Int) (r2 : Int) (r3 : Int) (w : World) (hr0 : Kd.C k40 w A0 l0.length l0) (hc0 : l0.length ≤ c0) (hr1 : Kd.C (Kd.int .i64) w A1 l1.length l1) (hc1 : l1.length ≤ c1) (h : half_Next.f k l0 l1 = some (r1, r2, r3)) (hG : GOK w) :
 Calls Tryz.prog 6 #[.slice A0 l0.length c0, .slice A1 l1.length c1] w fun e w' => e = .returned (.tuple #[.agg #[.int .i64 r1, .int .i64 r2], .int .i64 r3]) ∧ Below w.heap.size w w' := by
 have hu27 := Tryz.underlying27
 have HR0 := a_ hr0
 have HC0 := a_ hc0
 clear hr0 hc0
 have HR1 := a_ hr1
 have HC1 := a_ hc1
 clear hr1 hc1
 have HB := a_ (Below.refl w.heap.size w)
 have H := h; unfold half_Next.f at H
 clear h
 replace H := Option.bind_eq_some_iff.mp H
 obtain ⟨t2, A30, H⟩ := H
 try dsimp only at H
 have A3 := a_ A30
 clear A30
 by_cases c4 : t2 = true
 case neg =>
  replace c4 := Bool.eq_false_iff.mpr c4
  subst c4
  rw [if_neg (show ¬ (false = true) by decide)] at H
  simp only [Option.some.injEq, Prod.mk.injEq] at H
  obtain ⟨rfl, rfl, rfl⟩ := H
  go_enter Tryz.func6, Tryz.ntmps6
  go_wp2_with (first | ((with_reducible refine gate_dst (N := 4) rfl ?_); refine boxE_ 4 #[.int .i64 0, .int .i64 0] 27 ?_; intro g0 hg w0 hbox hb; have B0 := a_ (hbox); have E0 := a_ ((gE_ hg : w.heap.size ≤ g0)); replace HB := a_ (below_step hB_ hb); clear hb hbox hg) | ((with_reducible refine gate_callee (f := 13) rfl ?_); refine goesL_ (some 8) rfl rfl Tryz.func13 (by kernel_rfl) rfl #[.slice A0 l0.length c0, .slice A1 l1.length c1] rfl hL_ ?_; (with_reducible refine (top_May.calls k _ _ l0 _ _ l1 false _ ?s1 ?s2 ?s3 ?s4 A3.out (by first | exact hG | exact GOK.below hG hC_)).mono ?_); (case s1 => exact cB_ HR0.out); (case s2 => exact HC0.out); (case s3 => exact cB_ HR1.out); (case s4 => exact HC1.out); rintro e w1 ⟨rfl, hb⟩; refine ⟨_, rfl, ?_⟩; replace B0 := a_ (bB_ B0.out hb); replace HB := a_ (below_step hC_ hb); (try clear hb); (try clear hb2); (try clear hk); (try clear hi); obtain ⟨z0, z1, f0, f1⟩ := bx2_ B0.out))
  refine bodyPost_ret (results_ct rfl _ _ g0 27 #[.int .i64 0, .int .i64 0] (0, 0) _ rfl (bP_ (bP_ (hK_ B0.out))) Tryz.underlying27 rfl (by kernel_rfl)) rfl ?_
  exact ⟨hV_, hC_⟩

 subst c4
 rw [if_pos rfl] at H
 replace H := Option.bind_eq_some_iff.mp H
 obtain ⟨⟨t0, t1⟩, A50, H⟩ := H
 try dsimp only at H
 have A5 := a_ A50
 clear A50
 simp only [Option.some.injEq, Prod.mk.injEq] at H
 obtain ⟨rfl, rfl, rfl⟩ := H
 go_enter Tryz.func6, Tryz.ntmps6
 go_wp2_with (first | ((with_reducible refine gate_dst (N := 4) rfl ?_); refine boxE_ 4 #[.int .i64 0, .int .i64 0] 27 ?_; intro g0 hg w6 hbox hb; have B0 := a_ (hbox); have E0 := a_ ((gE_ hg : w.heap.size ≤ g0)); replace HB := a_ (below_step hB_ hb); clear hb hbox hg) | ((with_reducible refine gate_callee (f := 13) rfl ?_); refine goesL_ (some 8) rfl rfl Tryz.func13 (by kernel_rfl) rfl #[.slice A0 l0.length c0, .slice A1 l1.length c1] rfl hL_ ?_; (with_reducible refine (top_May.calls k _ _ l0 _ _ l1 true _ ?s1 ?s2 ?s3 ?s4 A3.out (by first | exact hG | exact GOK.below hG hC_)).mono ?_); (case s1 => exact cB_ HR0.out); (case s2 => exact HC0.out); (case s3 => exact cB_ HR1.out); (case s4 => exact HC1.out); rintro e w7 ⟨rfl, hb⟩; refine ⟨_, rfl, ?_⟩; replace B0 := a_ (bB_ B0.out hb); replace HB := a_ (below_step hC_ hb); (try clear hb); (try clear hb2); (try clear hk); (try clear hi)) | ((with_reducible refine gate_callee (f := 14) rfl ?_); refine goesL_ (some 13) rfl rfl Tryz.func14 (by kernel_rfl) rfl #[.slice A0 l0.length c0, .slice A1 l1.length c1] rfl hL_ ?_; (with_reducible refine (half_Ask.calls k _ _ l0 _ _ l1 t0 t1 _ ?s1 ?s2 ?s3 ?s4 A5.out (by first | exact hG | exact GOK.below hG hC_)).mono ?_); (case s1 => exact cB_ HR0.out); (case s2 => exact HC0.out); (case s3 => exact cB_ HR1.out); (case s4 => exact HC1.out); rintro e w8 ⟨rfl, hb⟩; refine ⟨_, rfl, ?_⟩; replace B0 := a_ (bB_ B0.out hb); replace HB := a_ (below_step hC_ hb); (try clear hb); (try clear hb2); (try clear hk); (try clear hi); obtain ⟨z2, z3, f2, f3⟩ := bx2_ B0.out))
 refine bodyPost_ret (results_ct rfl _ _ g0 27 #[.int .i64 t0, .int .i64 t1] (0, 0) _ rfl (bP_ (bP_ (hK_ B0.out))) Tryz.underlying27 rfl (by kernel_rfl)) rfl ?_
 exact ⟨hV_, hC_⟩
def sleuthref12_upTo.f (a0 : Int) (a1 : Int) (a2 : Int) : Option (Bool) := if a0 ≥ a1 then (some (decide (a0 ≤ a2))) else (some false)
theorem sleuthref12_upTo.calls (a0 : Int) (a1 : Int) (a2 : Int) (r : Bool) (w : World) (h : sleuthref12_upTo.f a0 a1 a2 = some r) :
 Calls Tryz.prog 31 #[.int .i64 a0, .int .i64 a1, .int .i64 a2] w fun e w' => e = .returned (.bool r) ∧ Drawn0 w w' := by
 have H := h; unfold sleuthref12_upTo.f at H
 clear h
 by_cases c4 : a0 ≥ a1
 case pos =>
  rw [if_pos c4] at H
  have c4b0 : decide (a1 ≤ a0) = true := decide_eq_true c4
  clear c4
  obtain rfl := Option.some.inj H
  go_enter Tryz.func31, Tryz.ntmps31
  go_wp2
  go_ret
  exact ⟨by first | rfl | (simp; done) | (simp [*]; done), by repeat (first | exact Drawn0.refl _ | apply Drawn0.step)⟩
 rw [if_neg c4] at H
 have c4b0 : decide (a1 ≤ a0) = false := decide_eq_false c4
 clear c4
 obtain rfl := Option.some.inj H
 go_enter Tryz.func31, Tryz.ntmps31
 go_wp2
 go_ret
 exact ⟨by first | rfl | (simp; done) | (simp [*]; done), by repeat (first | exact Drawn0.refl _ | apply Drawn0.step)⟩

def sleuthref1_bad.f  : Option (Int × Int × List ByteArray × Int) := some (0, 0, ([] : List ByteArray), (-1))
theorem sleuthref1_bad.calls  (r1 : Int) (r2 : Int) (r3 : List ByteArray) (r4 : Int) (w : World) (h : sleuthref1_bad.f  = some (r1, r2, r3, r4)) :
 Calls Tryz.prog 63 #[] w fun e w' => ∃ v2_ : Value, e = .returned (.agg #[.int .i64 r1, .int .i64 r2, v2_, .int .i64 r4]) ∧ Kd.R Kd.string 9 w' w.heap.size (fun _ => True) v2_ r3 ∧ Below w.heap.size w w' := by
 have hu82 := Tryz.underlying82
 have HB := a_ (Below.refl w.heap.size w)
 have H := h; unfold sleuthref1_bad.f at H
 clear h
 simp only [Option.some.injEq, Prod.mk.injEq] at H
 obtain ⟨rfl, rfl, rfl, rfl⟩ := H
 go_enter Tryz.func63, Tryz.ntmps63
 go_wp2_with (first | ((with_reducible refine gate_dst (N := 0) rfl ?_); refine boxE_ 0 #[.int .i64 0, .int .i64 0, .slice none 0 0, .int .i64 0] 82 ?_; intro g0 hg w1 hbox hb; have B0 := a_ (hbox); have E0 := a_ ((gE_ hg : w.heap.size ≤ g0)); replace HB := a_ (below_step hB_ hb); clear hb hbox hg; obtain ⟨z0, z1, z2, z3, f0, f1, f2, f3⟩ := bx4_ B0.out))
 refine bodyPost_ret (results_cell_row rfl _ _ g0 82 #[.int .i64 0, .int .i64 0, .slice none 0 0, .int .i64 (-1)] (0, 0) _ rfl (bP_ (bP_ (bP_ (bP_ (hK_ B0.out))))) Tryz.underlying82 rfl (by kernel_rfl)) rfl ?_
 exact ⟨_, hV_, by first | exact Kd.R_nil _ _ _ _ _ | exact Kd.N_nil _ _ _ _ _ | exact Kd.V_nil _ _ _ _ _ | exact Kd.Q_nil _ _ _ _ _ | exact Kd.S_nil _ _ _ _ _, hC_⟩

set_option maxHeartbeats 8000000
set_option maxRecDepth 100000
attribute [local go_sem] max2_int min2_int max_two min_two max_three min_three max_four min_four   -- for this text's walks alone
set_option linter.unusedVariables false
set_option linter.unusedSimpArgs false

def sleuthref1_digits.l0 : Nat → ByteArray → Int → Int → Option (Int × Int)
 | 0, _, _, _ => none
 | k + 1, x0, x4, x5 => if x5 < (x0.size : Int) then (if x5 < 6 then (if 0 ≤ x5 then (if (bt x0 x5) ≥ 48 then (if (bt x0 x5) ≤ 57 then (if x5 = 0 then (sleuthref1_digits.l0 k x0 (wrap64 ((wrap64 (10 * x4)) + (((bt x0 x5) - 48) % 256))) (wrap64 (x5 + 1))) else (if 0 < (x0.size : Int) then (if (bt x0 0) = 48 then (some (x4, x5)) else (sleuthref1_digits.l0 k x0 (wrap64 ((wrap64 (10 * x4)) + (((bt x0 x5) - 48) % 256))) (wrap64 (x5 + 1)))) else (none))) else (some (x4, x5))) else (some (x4, x5))) else (none)) else (some (x4, x5))) else (some (x4, x5))
def sleuthref1_digits.f (k : Nat) (a0 : ByteArray) : Option (Int × Int) := sleuthref1_digits.l0 k a0 0 0
theorem sleuthref1_digits.calls (k : Nat) (a0 : ByteArray) (r1 : Int) (r2 : Int) (w : World) (h : sleuthref1_digits.f k a0 = some (r1, r2)) :
 Calls Tryz.prog 64 #[.string a0] w fun e w' => e = .returned (.tuple #[.int .i64 r1, .int .i64 r2]) ∧ Drawn0 w w' := by
 have H : (sleuthref1_digits.l0 k a0 0 0) = some (r1, r2) := h
 clear h
 have H' := a_ H
 clear H
 go_enter Tryz.func64, Tryz.ntmps64
 go_wp2
 go_loopg [4, 5] k (fun kq v4 v5 w' => ∃ (x1 : Int) (x0 : Int), v4 = .int .i64 x1 ∧ v5 = .int .i64 x0 ∧ Aside0 (sleuthref1_digits.l0 kq a0 x1 x0 = some (r1, r2)) ∧ Aside0 (kq ≤ k) ∧ Drawn0 w w')
 case atStart => exact ⟨(0), (0), hW_, hW_, H', ⟨Nat.le_refl _⟩, by repeat (first | exact Drawn0.refl _ | apply Drawn0.step)⟩
 case round =>
  clear H'
  obtain ⟨x1, x0, rfl, rfl, HA, HK1, ⟨m1, rfl⟩⟩ := hrel
  cases gk with
  | zero => exact absurd HA.out (by simp [sleuthref1_digits.l0])
  | succ k1 =>
   have H := HA.out
   clear HA
   simp only [sleuthref1_digits.l0] at H
   by_cases c2 : x0 < (a0.size : Int)
   case neg =>
    rw [if_neg c2] at H
    have c2b0 : decide (x0 < (a0.size : Int)) = false := decide_eq_false c2
    clear c2
    simp only [Option.some.injEq, Prod.mk.injEq] at H
    obtain ⟨rfl, rfl⟩ := H
    go_wp2
    go_ret2
    exact ⟨by first | rfl | (simp; done) | (simp [*]; done), by repeat (first | exact Drawn0.refl _ | apply Drawn0.step)⟩

   rw [if_pos c2] at H
   have c2b0 : decide (x0 < (a0.size : Int)) = true := decide_eq_true c2
   clear c2
   by_cases c3 : x0 < 6
   case neg =>
    rw [if_neg c3] at H
    have c3b0 : decide (x0 < 6) = false := decide_eq_false c3
    clear c3
    simp only [Option.some.injEq, Prod.mk.injEq] at H
    obtain ⟨rfl, rfl⟩ := H
    go_wp2
    go_ret2
    exact ⟨by first | rfl | (simp; done) | (simp [*]; done), by repeat (first | exact Drawn0.refl _ | apply Drawn0.step)⟩
   rw [if_pos c3] at H
   have c3b0 : decide (x0 < 6) = true := decide_eq_true c3
   clear c3
   replace H := ifI_ H; obtain ⟨c4, H⟩ := H
   have c4b0 : decide (0 ≤ x0) = true := decide_eq_true c4
   clear c4
   by_cases c6 : (bt a0 x0) ≥ 48
   case neg =>
    rw [if_neg c6] at H
    have c6b0 : decide (48 ≤ (bt a0 x0)) = false := decide_eq_false c6
    clear c6
    simp only [Option.some.injEq, Prod.mk.injEq] at H
    obtain ⟨rfl, rfl⟩ := H
    have p5 : 0 ≤ (x0 : Int) := of_decide_eq_true hA_
    have q5 : x0 < (a0.size : Int) := of_decide_eq_true hA_
    have h0 := bt_at a0 x0
    replace p5 := eq_true p5
    replace q5 := eq_true q5
    go_wp2
    go_ret2
    exact ⟨by first | rfl | (simp; done) | (simp [*]; done), by repeat (first | exact Drawn0.refl _ | apply Drawn0.step)⟩
   rw [if_pos c6] at H
   have c6b0 : decide (48 ≤ (bt a0 x0)) = true := decide_eq_true c6
   clear c6
   by_cases c8 : (bt a0 x0) ≤ 57
   case neg =>
    rw [if_neg c8] at H
    have c8b0 : decide ((bt a0 x0) ≤ 57) = false := decide_eq_false c8
    clear c8
    simp only [Option.some.injEq, Prod.mk.injEq] at H
    obtain ⟨rfl, rfl⟩ := H
    have p5 : 0 ≤ (x0 : Int) := of_decide_eq_true hA_
    have q5 : x0 < (a0.size : Int) := of_decide_eq_true hA_
    have h0 := bt_at a0 x0
    replace p5 := eq_true p5
    replace q5 := eq_true q5
    have p7 : 0 ≤ (x0 : Int) := of_decide_eq_true hA_
    have q7 : x0 < (a0.size : Int) := of_decide_eq_true hA_
    have h1 := bt_at a0 x0
    replace p7 := eq_true p7
    replace q7 := eq_true q7
    go_wp2
    go_ret2
    exact ⟨by first | rfl | (simp; done) | (simp [*]; done), by repeat (first | exact Drawn0.refl _ | apply Drawn0.step)⟩
   rw [if_pos c8] at H
   have c8b0 : decide ((bt a0 x0) ≤ 57) = true := decide_eq_true c8
   clear c8
   by_cases c9 : x0 = 0
   case pos =>
    rw [if_pos c9] at H
    have c9b0 : (x0 == 0) = true := beq_iff_eq.mpr c9
    have c9b1 : (x0 != 0) = false := bne_eq_false_iff_eq.mpr c9
    clear c9
    have H' := a_ H
    clear H
    have p5 : 0 ≤ (x0 : Int) := of_decide_eq_true hA_
    have q5 : x0 < (a0.size : Int) := of_decide_eq_true hA_
    have h0 := bt_at a0 x0
    replace p5 := eq_true p5
    replace q5 := eq_true q5
    have p7 : 0 ≤ (x0 : Int) := of_decide_eq_true hA_
    have q7 : x0 < (a0.size : Int) := of_decide_eq_true hA_
    have h1 := bt_at a0 x0
    replace p7 := eq_true p7
    replace q7 := eq_true q7
    have p10 : 0 ≤ (x0 : Int) := of_decide_eq_true hA_
    have q10 : x0 < (a0.size : Int) := of_decide_eq_true hA_
    have h3 := bt_at a0 x0
    replace p10 := eq_true p10
    replace q10 := eq_true q10
    go_wp2
    go_roundg k1
    case measure => have := HK1.out; omega
    case rel => exact ⟨(wrap64 ((wrap64 (10 * x1)) + (((bt a0 x0) - 48) % 256))), (wrap64 (x0 + 1)), hW_, hW_, H', ⟨by have := HK1.out; omega⟩, by repeat (first | exact Drawn0.refl _ | apply Drawn0.step)⟩
   rw [if_neg c9] at H
   have c9b0 : (x0 == 0) = false := beq_eq_false_iff_ne.mpr c9
   have c9b1 : (x0 != 0) = true := bne_iff_ne.mpr c9
   replace H := ifI_ H; obtain ⟨c11, H⟩ := H
   have c11b0 : decide (0 < (a0.size : Int)) = true := decide_eq_true c11
   have c11b1 : decide (0 < a0.size) = true := decide_eq_true (by omega)
   clear c11
   by_cases c13 : (bt a0 0) = 48
   case pos =>
    rw [if_pos c13] at H
    have c13b0 : ((bt a0 0) == 48) = true := beq_iff_eq.mpr c13
    have c13b1 : ((bt a0 0) != 48) = false := bne_eq_false_iff_eq.mpr c13
    clear c13
    simp only [Option.some.injEq, Prod.mk.injEq] at H
    obtain ⟨rfl, rfl⟩ := H
    have p5 : 0 ≤ (x0 : Int) := of_decide_eq_true hA_
    have q5 : x0 < (a0.size : Int) := of_decide_eq_true hA_
    have h0 := bt_at a0 x0
    replace p5 := eq_true p5
    replace q5 := eq_true q5
    have p7 : 0 ≤ (x0 : Int) := of_decide_eq_true hA_
    have q7 : x0 < (a0.size : Int) := of_decide_eq_true hA_
    have h1 := bt_at a0 x0
    replace p7 := eq_true p7
    replace q7 := eq_true q7
    have p12 : 0 ≤ (0 : Int) := (by omega)
    have q12 : 0 < a0.size := (by have : (0 : Int) < (a0.size : Int) := of_decide_eq_true hA_; omega)
    have h2 : ∀ h : 0 < a0.size, ((a0[0]'h).toNat : Int) = bt a0 0 := bt_at a0 0
    clear p12
    have qi12 : (0 < (a0.size : Int)) = True := eq_true (of_decide_eq_true hA_)
    replace q12 := eq_true q12
    go_wp2
    go_ret2
    exact ⟨by first | rfl | (simp; done) | (simp [*]; done), by repeat (first | exact Drawn0.refl _ | apply Drawn0.step)⟩
   rw [if_neg c13] at H
   have c13b0 : ((bt a0 0) == 48) = false := beq_eq_false_iff_ne.mpr c13
   have c13b1 : ((bt a0 0) != 48) = true := bne_iff_ne.mpr c13
   have H' := a_ H
   clear H
   have p5 : 0 ≤ (x0 : Int) := of_decide_eq_true hA_
   have q5 : x0 < (a0.size : Int) := of_decide_eq_true hA_
   have h0 := bt_at a0 x0
   replace p5 := eq_true p5
   replace q5 := eq_true q5
   have p7 : 0 ≤ (x0 : Int) := of_decide_eq_true hA_
   have q7 : x0 < (a0.size : Int) := of_decide_eq_true hA_
   have h1 := bt_at a0 x0
   replace p7 := eq_true p7
   replace q7 := eq_true q7
   have p12 : 0 ≤ (0 : Int) := (by omega)
   have q12 : 0 < a0.size := (by have : (0 : Int) < (a0.size : Int) := of_decide_eq_true hA_; omega)
   have h2 : ∀ h : 0 < a0.size, ((a0[0]'h).toNat : Int) = bt a0 0 := bt_at a0 0
   clear p12
   have qi12 : (0 < (a0.size : Int)) = True := eq_true (of_decide_eq_true hA_)
   replace q12 := eq_true q12
   have p14 : 0 ≤ (x0 : Int) := of_decide_eq_true hA_
   have q14 : x0 < (a0.size : Int) := of_decide_eq_true hA_
   have h4 := bt_at a0 x0
   replace p14 := eq_true p14
   replace q14 := eq_true q14
   go_wp2
   go_roundg k1
   case measure => have := HK1.out; omega
   case rel => exact ⟨(wrap64 ((wrap64 (10 * x1)) + (((bt a0 x0) - 48) % 256))), (wrap64 (x0 + 1)), hW_, hW_, H', ⟨by have := HK1.out; omega⟩, by repeat (first | exact Drawn0.refl _ | apply Drawn0.step)⟩
-- (function 65, sleuthref1_parts: with its fellows)

def sleuthref1_upTo.f (a0 : Int) (a1 : Int) (a2 : Int) : Option (Bool) := if a0 ≥ a1 then (some (decide (a0 ≤ a2))) else (some false)
theorem sleuthref1_upTo.calls (a0 : Int) (a1 : Int) (a2 : Int) (r : Bool) (w : World) (h : sleuthref1_upTo.f a0 a1 a2 = some r) :
 Calls Tryz.prog 74 #[.int .i64 a0, .int .i64 a1, .int .i64 a2] w fun e w' => e = .returned (.bool r) ∧ Drawn0 w w' := by
 have H := h; unfold sleuthref1_upTo.f at H
 clear h
 by_cases c4 : a0 ≥ a1
 case pos =>
  rw [if_pos c4] at H
  have c4b0 : decide (a1 ≤ a0) = true := decide_eq_true c4
  clear c4
  obtain rfl := Option.some.inj H
  go_enter Tryz.func74, Tryz.ntmps74
  go_wp2
  go_ret
  exact ⟨by first | rfl | (simp; done) | (simp [*]; done), by repeat (first | exact Drawn0.refl _ | apply Drawn0.step)⟩
 rw [if_neg c4] at H
 have c4b0 : decide (a1 ≤ a0) = false := decide_eq_false c4
 clear c4
 obtain rfl := Option.some.inj H
 go_enter Tryz.func74, Tryz.ntmps74
 go_wp2
 go_ret
 exact ⟨by first | rfl | (simp; done) | (simp [*]; done), by repeat (first | exact Drawn0.refl _ | apply Drawn0.step)⟩

def sleuthref1_NumMay.f (a0 : Int) : Option (Bool) := (sleuthref1_upTo.f a0 (-32768) 32767).bind fun t212 => (some t212)
theorem sleuthref1_NumMay.calls (a0 : Int) (r : Bool) (w : World) (h : sleuthref1_NumMay.f a0 = some r) :
 Calls Tryz.prog 66 #[.int .i64 a0] w fun e w' => e = .returned (.bool r) ∧ Drawn0 w w' := by
 have H := h; unfold sleuthref1_NumMay.f at H
 clear h
 replace H := Option.bind_eq_some_iff.mp H
 obtain ⟨t0, A20, H⟩ := H
 try dsimp only at H
 have A2 := a_ A20
 clear A20
 obtain rfl := Option.some.inj H
 go_enter Tryz.func66, Tryz.ntmps66
 go_wp2_with (first | ((with_reducible refine gate_callee (f := 74) rfl ?_); refine goesL_ _ rfl rfl Tryz.func74 (by kernel_rfl) rfl #[.int .i64 a0, .int .i64 (-32768), .int .i64 32767] rfl hL_ ?_; (with_reducible refine (sleuthref1_upTo.calls a0 (-32768) 32767 t0 _ A2.out).mono ?_); rintro e w' ⟨rfl, ⟨nd, rfl⟩⟩; refine ⟨_, rfl, ?_⟩))
 go_ret
 exact ⟨by first | rfl | (simp; done) | (simp [*]; done), by repeat (first | exact Drawn0.refl _ | apply Drawn0.step)⟩

end Go.Proofs.YtifhpkakdlfgnaaGreatDoor.G
end
