/- Parts of this proof, one behind the other: G46, G57, AnsBothL. -/
import Derived.Test.YtbnljapgnfmmoaaGreatDoorU2
import Derived.Test.YtbnljapgnfmmoaaGreatDoorG0
import Derived.Test.YtbnljapgnfmmoaaGreatDoorU9
import Derived.Test.YtbnljapgnfmmoaaGreatDoorU12
import Derived.Test.YtbnljapgnfmmoaaGreatDoorU5
import Derived.Test.YtbnljapgnfmmoaaGreatDoorU7
import Derived.Test.YtbnljapgnfmmoaaGreatDoorU13
import Derived.Test.YtbnljapgnfmmoaaGreatDoorU10
section
namespace Go.Proofs.YtbnljapgnfmmoaaGreatDoor.G
open Go.RowKit Go.Proofs.YtbnljapgnfmmoaaGreatDoorW.PrintWords Go.Proofs.YtbnljapgnfmmoaaGreatDoorW.PrintLast Go.Proofs.YtbnljapgnfmmoaaGreatDoorW.PrintMore
set_option maxHeartbeats 8000000
set_option maxRecDepth 100000
attribute [local go_sem] max2_int min2_int max_two min_two max_three min_three max_four min_four   -- for this text's walks alone
set_option linter.unusedVariables false
set_option linter.unusedSimpArgs false

def sleuthref12_PutAnswer.j0 : Nat → Int → Bool → List (S66) → Int → List (S53) → Option ((List (S66)) × Int × (List (S53)) × Int)
 | 0, _, _, _, _, _ => none
 | k + 1, x1, x16, x461000, x461001, x461002 => if x16 = true then (some (([] : List (S66)), 0, ([] : List (S53)), 2200)) else ((sleuthref12_Step.f k x461000 x461001 x461002).bind fun bt464 => (if bt464.2.2 = 0 then (if bt464.1 = 0 then ((some (([] : List (S53)) : List (S53))).bind fun y468 => (if y468.length + x461002.length < 8796093022208 then ((some (y468 ++ x461002 : List (S53))).bind fun y471 => (if y471.length < 8796093022208 then ((sleuthref12_with.f k x461000 x461001 x461002 (y471 ++ [(⟨bt464.2.1, x1⟩ : S53)])).bind fun bt477 => (some (bt477.1, bt477.2.1, bt477.2.2, 0))) else (none))) else (none))) else (some (([] : List (S66)), 0, ([] : List (S53)), 2201))) else (some (([] : List (S66)), 0, ([] : List (S53)), 2201))))
def sleuthref12_PutAnswer.f (k : Nat) (l0_0 : List (S66)) (a0_1 : Int) (l0_2 : List (S53)) (a1 : Int) : Option ((List (S66)) × Int × (List (S53)) × Int) := (sleuthref12_SessionMay.f k l0_0 a0_1 l0_2).bind fun t462 => (if t462 = true then ((sleuthref12_markMay.f a1).bind fun t463 => (sleuthref12_PutAnswer.j0 k a1 (!t463) l0_0 a0_1 l0_2)) else (sleuthref12_PutAnswer.j0 k a1 true l0_0 a0_1 l0_2))
theorem sleuthref12_PutAnswer.calls (k : Nat) (A0_0 : Option Addr) (c0_0 : Nat) (l0_0 : List (S66)) (a0_1 : Int) (A0_2 : Option Addr) (c0_2 : Nat) (l0_2 : List (S53)) (a1 : Int) (r1 : List (S66)) (r2 : Int) (r3 : List (S53)) (r4 : Int) (w : World) (hr0_0 : Kd.C k66 w A0_0 l0_0.length l0_0) (hc0_0 : l0_0.length ≤ c0_0) (hr0_2 : Kd.C k53 w A0_2 l0_2.length l0_2) (hc0_2 : l0_2.length ≤ c0_2) (h : sleuthref12_PutAnswer.f k l0_0 a0_1 l0_2 a1 = some (r1, r2, r3, r4)) :
 Calls Tryz.prog 9 #[.agg #[.slice A0_0 l0_0.length c0_0, .int .i64 a0_1, .slice A0_2 l0_2.length c0_2], .int .i64 a1] w fun e w' => ∃ v0_ v2_ : Value, e = .returned (.tuple #[.agg #[v0_, .int .i64 r2, v2_], .int .i64 r4]) ∧ Kd.N k66 66 w' w.heap.size (fun k_ => (w.heap.size ≤ k_) ∧ some k_ ≠ (v2_ : Value).ownBlock) v0_ r1 ∧ Kd.R k53 53 w' w.heap.size (fun k_ => (w.heap.size ≤ k_)) v2_ r3 ∧ Below w.heap.size w w' := by
 have hu25 := Tryz.underlying25
 have hu49 := Tryz.underlying49
 have hu53 := Tryz.underlying53
 have HR0_0 := a_ hr0_0
 have HC0_0 := a_ hc0_0
 clear hr0_0 hc0_0
 have HR0_2 := a_ hr0_2
 have HC0_2 := a_ hc0_2
 clear hr0_2 hc0_2
 have HB := a_ (Below.refl w.heap.size w)
 have H := h; unfold sleuthref12_PutAnswer.f at H
 clear h
 have HC3 := a_ H
 clear H
 go_enter Tryz.func9, Tryz.ntmps9
 go_upto_region 1 with (first | ((with_reducible refine gate_dst (N := 2) rfl ?_); refine boxE_ 2 #[.slice A0_0 l0_0.length c0_0, .int .i64 a0_1, .slice A0_2 l0_2.length c0_2] 25 ?_; intro g2 hg w4 hbox hb; have B0 := a_ (hbox); have E1 := a_ ((gE_ hg : w.heap.size ≤ g2)); replace HB := a_ (below_step hB_ hb); clear hb hbox hg) | ((with_reducible refine gate_dst (N := 4) rfl ?_); refine boxE_ 4 #[.slice none 0 0, .int .i64 0, .slice none 0 0] 25 ?_; intro g1 hg w5 hbox hb; have B1 := a_ (hbox); have E2 := a_ ((gE_ hg : w.heap.size ≤ g1)); replace HB := a_ (below_step hC_ hb); have N2 := a_ ((bL_ B0.out hg : g2 ≠ g1)); have N3 := a_ ((bG_ B0.out hg : g1 ≠ g2)); replace B0 := a_ (bB_ B0.out hb); clear hb hbox hg))
 (try simp only [Act.put, List.setIfInBounds_toArray, List.set_cons_zero, List.set_cons_succ])
 go_cut [16] (fun v0 wc => ∃ (kq : Nat) (x0 : Bool), v0 = .bool x0 ∧ Aside0 (sleuthref12_PutAnswer.j0 kq a1 x0 l0_0 a0_1 l0_2 = some (r1, r2, r3, r4)) ∧ Aside0 (kq ≤ k) ∧ Aside0 (wc.heap[g2]? = some (.cells #[(.slice A0_0 l0_0.length c0_0), .int .i64 a0_1, (.slice A0_2 l0_2.length c0_2)] 25 (0, 0))) ∧ Aside0 (wc.heap[g1]? = some (.cells #[(.slice none 0 0), .int .i64 0, (.slice none 0 0)] 25 (0, 0))) ∧ Aside0 (Below w.heap.size w wc))
 case first =>
  have H := HC3.out
  clear HC3
  replace H := Option.bind_eq_some_iff.mp H
  obtain ⟨t7, A60, H⟩ := H
  try dsimp only at H
  have A6 := a_ A60
  clear A60
  by_cases c7 : t7 = true
  case neg =>
   replace c7 := Bool.eq_false_iff.mpr c7
   subst c7
   rw [if_neg (show ¬ (false = true) by decide)] at H
   have H' := a_ H
   clear H
   have m0 := N2.out
   have n0 := N3.out
   obtain ⟨z0, z1, z2, f0, f1, f2⟩ := bx3_ B0.out
   go_wp2_with (first | ((with_reducible refine gate_callee (f := 16) rfl ?_); refine goesL_ (some 10) rfl rfl Tryz.func16 (by kernel_rfl) rfl #[.agg #[.slice A0_0 l0_0.length c0_0, .int .i64 a0_1, .slice A0_2 l0_2.length c0_2]] rfl hL_ ?_; (with_reducible refine (sleuthref12_SessionMay.calls k _ _ l0_0 a0_1 _ _ l0_2 false _ ?s1 ?s2 ?s3 ?s4 A6.out).mono ?_); (case s1 => exact cB_ HR0_0.out); (case s2 => exact HC0_0.out); (case s3 => exact cB_ HR0_2.out); (case s4 => exact HC0_2.out); rintro e w1 ⟨rfl, hb⟩; refine ⟨_, rfl, ?_⟩; replace B0 := a_ (bB_ B0.out hb); replace B1 := a_ (bB_ B1.out hb); replace HB := a_ (below_step hC_ hb); (try clear hb); (try clear hb2); (try clear hk); (try clear hi)))
   go_meet
   case rel => exact ⟨_, (true), hW_, H', ⟨by first | omega | exact Nat.le_refl _⟩, ⟨(hK_ B0.out)⟩, ⟨(hK_ B1.out)⟩, ⟨hC_⟩⟩
  subst c7
  rw [if_pos rfl] at H
  replace H := Option.bind_eq_some_iff.mp H
  obtain ⟨t3, A80, H⟩ := H
  try dsimp only at H
  have A8 := a_ A80
  clear A80
  have H' := a_ H
  clear H
  have m1 := N2.out
  have n1 := N3.out
  obtain ⟨z3, z4, z5, f3, f4, f5⟩ := bx3_ B0.out
  go_wp2_with (first | ((with_reducible refine gate_callee (f := 16) rfl ?_); refine goesL_ _ rfl rfl Tryz.func16 (by kernel_rfl) rfl #[.agg #[.slice A0_0 l0_0.length c0_0, .int .i64 a0_1, .slice A0_2 l0_2.length c0_2]] rfl hL_ ?_; (with_reducible refine (sleuthref12_SessionMay.calls k _ _ l0_0 a0_1 _ _ l0_2 true _ ?s1 ?s2 ?s3 ?s4 A6.out).mono ?_); (case s1 => exact cB_ HR0_0.out); (case s2 => exact HC0_0.out); (case s3 => exact cB_ HR0_2.out); (case s4 => exact HC0_2.out); rintro e w2 ⟨rfl, hb⟩; refine ⟨_, rfl, ?_⟩; replace B0 := a_ (bB_ B0.out hb); replace B1 := a_ (bB_ B1.out hb); replace HB := a_ (below_step hC_ hb); (try clear hb); (try clear hb2); (try clear hk); (try clear hi)) | (go_at_call 25; (with_reducible refine (sleuthref12_markMay.calls a1 t3 _ A8.out).mono ?_); rintro e w' ⟨rfl, ⟨nd, rfl⟩⟩))
  go_meet
  case rel => exact ⟨_, (!t3), hW_, H', ⟨by first | omega | exact Nat.le_refl _⟩, ⟨(hK_ B0.out)⟩, ⟨(hK_ B1.out)⟩, ⟨hC_⟩⟩
 case rest =>
  clear HC3
  try clear c1
  try clear p2
  try clear c7
  try clear c9
  try clear c12
  try clear z3
  try clear z4
  try clear z5
  try clear z0
  try clear z1
  try clear z2
  try clear f3
  try clear f4
  try clear f5
  try clear f0
  try clear f1
  try clear f2
  obtain ⟨kq, x0, rfl, HA, HJ2, B0, B1, HB⟩ := hcut
  cases kq with
  | zero => exact absurd HA.out (by simp [sleuthref12_PutAnswer.j0])
  | succ kj2 =>
   have H := HA.out
   clear HA
   simp only [sleuthref12_PutAnswer.j0] at H
   by_cases c15 : x0 = true
   case pos =>
    subst c15
    rw [if_pos rfl] at H
    simp only [Option.some.injEq, Prod.mk.injEq] at H
    obtain ⟨rfl, rfl, rfl, rfl⟩ := H
    have m2 := N3.out
    have n2 := N2.out
    obtain ⟨z6, z7, z8, f6, f7, f8⟩ := bx3_ B1.out
    go_wp2
    refine bodyPost_ret (results_ct rfl _ _ g1 25 #[.slice none 0 0, .int .i64 0, .slice none 0 0] (0, 0) _ rfl (bP_ (bP_ (bP_ (hK_ B1.out)))) Tryz.underlying25 rfl (by kernel_rfl)) rfl ?_
    exact ⟨_, _, hV_, by first | exact Kd.S_nil _ _ _ _ _ | exact Kd.N_nil _ _ _ _ _ | exact Kd.V_nil _ _ _ _ _ | exact Kd.Q_nil _ _ _ _ _ | exact Kd.R_nil _ _ _ _ _, by first | exact Kd.R_nil _ _ _ _ _ | exact Kd.N_nil _ _ _ _ _ | exact Kd.V_nil _ _ _ _ _ | exact Kd.Q_nil _ _ _ _ _ | exact Kd.S_nil _ _ _ _ _, hC_⟩
   replace c15 := Bool.eq_false_iff.mpr c15
   subst c15
   rw [if_neg (show ¬ (false = true) by decide)] at H
   replace H := Option.bind_eq_some_iff.mp H
   obtain ⟨⟨t1, t0, t2⟩, A180, H⟩ := H
   try dsimp only at H
   have A18 := a_ A180
   clear A180
   by_cases c19 : t2 = 0
   case neg =>
    rw [if_neg c19] at H
    have c19b0 : (t2 == 0) = false := beq_eq_false_iff_ne.mpr c19
    have c19b1 : (t2 != 0) = true := bne_iff_ne.mpr c19
    simp only [Option.some.injEq, Prod.mk.injEq] at H
    obtain ⟨rfl, rfl, rfl, rfl⟩ := H
    have m3 := N2.out
    have n3 := N3.out
    obtain ⟨z9, z10, z11, f9, f10, f11⟩ := bx3_ B0.out
    go_wp2_with (first | ((with_reducible refine gate_callee (f := 26) rfl ?_); refine goesL_ (some 20) rfl rfl Tryz.func26 (by kernel_rfl) rfl #[.agg #[.slice A0_0 l0_0.length c0_0, .int .i64 a0_1, .slice A0_2 l0_2.length c0_2]] rfl hL_ ?_; (with_reducible refine (sleuthref12_Step.calls kj2 _ _ l0_0 a0_1 _ _ l0_2 t1 t0 t2 _ ?s1 ?s2 ?s3 ?s4 A18.out).mono ?_); (case s1 => exact cB_ HR0_0.out); (case s2 => exact HC0_0.out); (case s3 => exact cB_ HR0_2.out); (case s4 => exact HC0_2.out); rintro e w3 ⟨rfl, hb⟩; refine ⟨_, rfl, ?_⟩; replace B0 := a_ (bB_ B0.out hb); replace B1 := a_ (bB_ B1.out hb); replace HB := a_ (below_step hC_ hb); (try clear hb); (try clear hb2); (try clear hk); (try clear hi)) | ((with_reducible refine gate_dst (N := 6) rfl ?_); refine boxE_ 6 #[.int .i64 0, .int .i64 0] 49 ?_; intro g0 hg w6 hbox hb; have B2 := a_ (hbox); have E0 := a_ ((gE_ hg : w.heap.size ≤ g0)); replace HB := a_ (below_step hC_ hb); have N1 := a_ ((bL_ B0.out hg : g2 ≠ g0)); have N4 := a_ ((bG_ B0.out hg : g0 ≠ g2)); replace B0 := a_ (bB_ B0.out hb); have N0 := a_ ((bL_ B1.out hg : g1 ≠ g0)); have N5 := a_ ((bG_ B1.out hg : g0 ≠ g1)); replace B1 := a_ (bB_ B1.out hb); clear hb hbox hg; have m4 := N4.out; have n4 := N1.out; have m5 := N5.out; have n5 := N0.out; obtain ⟨z12, z13, f12, f13⟩ := bx2_ B2.out; obtain ⟨z14, z15, z16, f14, f15, f16⟩ := bx3_ B1.out))
    refine bodyPost_ret (results_ct rfl _ _ g1 25 #[.slice none 0 0, .int .i64 0, .slice none 0 0] (0, 0) _ rfl (bP_ (bP_ (bP_ (bF_ (bF_ (hK_ B1.out) N0.out) N0.out)))) Tryz.underlying25 rfl (by kernel_rfl)) rfl ?_
    exact ⟨_, _, hV_, by first | exact Kd.S_nil _ _ _ _ _ | exact Kd.N_nil _ _ _ _ _ | exact Kd.V_nil _ _ _ _ _ | exact Kd.Q_nil _ _ _ _ _ | exact Kd.R_nil _ _ _ _ _, by first | exact Kd.R_nil _ _ _ _ _ | exact Kd.N_nil _ _ _ _ _ | exact Kd.V_nil _ _ _ _ _ | exact Kd.Q_nil _ _ _ _ _ | exact Kd.S_nil _ _ _ _ _, hC_⟩

   rw [if_pos c19] at H
   have c19b0 : (t2 == 0) = true := beq_iff_eq.mpr c19
   have c19b1 : (t2 != 0) = false := bne_eq_false_iff_eq.mpr c19
   clear c19
   by_cases c20 : t1 = 0
   case neg =>
    rw [if_neg c20] at H
    have c20b0 : (t1 == 0) = false := beq_eq_false_iff_ne.mpr c20
    have c20b1 : (t1 != 0) = true := bne_iff_ne.mpr c20
    simp only [Option.some.injEq, Prod.mk.injEq] at H
    obtain ⟨rfl, rfl, rfl, rfl⟩ := H
    have m6 := N2.out
    have n6 := N3.out
    obtain ⟨z17, z18, z19, f17, f18, f19⟩ := bx3_ B0.out
    go_wp2_with (first | ((with_reducible refine gate_callee (f := 26) rfl ?_); refine goesL_ (some 20) rfl rfl Tryz.func26 (by kernel_rfl) rfl #[.agg #[.slice A0_0 l0_0.length c0_0, .int .i64 a0_1, .slice A0_2 l0_2.length c0_2]] rfl hL_ ?_; (with_reducible refine (sleuthref12_Step.calls kj2 _ _ l0_0 a0_1 _ _ l0_2 t1 t0 t2 _ ?s1 ?s2 ?s3 ?s4 A18.out).mono ?_); (case s1 => exact cB_ HR0_0.out); (case s2 => exact HC0_0.out); (case s3 => exact cB_ HR0_2.out); (case s4 => exact HC0_2.out); rintro e w7 ⟨rfl, hb⟩; refine ⟨_, rfl, ?_⟩; replace B0 := a_ (bB_ B0.out hb); replace B1 := a_ (bB_ B1.out hb); replace HB := a_ (below_step hC_ hb); (try clear hb); (try clear hb2); (try clear hk); (try clear hi)) | ((with_reducible refine gate_dst (N := 6) rfl ?_); refine boxE_ 6 #[.int .i64 0, .int .i64 0] 49 ?_; intro g0 hg w8 hbox hb; have B2 := a_ (hbox); have E0 := a_ ((gE_ hg : w.heap.size ≤ g0)); replace HB := a_ (below_step hC_ hb); have N1 := a_ ((bL_ B0.out hg : g2 ≠ g0)); have N4 := a_ ((bG_ B0.out hg : g0 ≠ g2)); replace B0 := a_ (bB_ B0.out hb); have N0 := a_ ((bL_ B1.out hg : g1 ≠ g0)); have N5 := a_ ((bG_ B1.out hg : g0 ≠ g1)); replace B1 := a_ (bB_ B1.out hb); clear hb hbox hg; have m7 := N4.out; have n7 := N1.out; have m8 := N5.out; have n8 := N0.out; obtain ⟨z20, z21, f20, f21⟩ := bx2_ B2.out; obtain ⟨z22, z23, z24, f22, f23, f24⟩ := bx3_ B1.out))
    refine bodyPost_ret (results_ct rfl _ _ g1 25 #[.slice none 0 0, .int .i64 0, .slice none 0 0] (0, 0) _ rfl (bP_ (bP_ (bP_ (bF_ (bF_ (hK_ B1.out) N0.out) N0.out)))) Tryz.underlying25 rfl (by kernel_rfl)) rfl ?_
    exact ⟨_, _, hV_, by first | exact Kd.S_nil _ _ _ _ _ | exact Kd.N_nil _ _ _ _ _ | exact Kd.V_nil _ _ _ _ _ | exact Kd.Q_nil _ _ _ _ _ | exact Kd.R_nil _ _ _ _ _, by first | exact Kd.R_nil _ _ _ _ _ | exact Kd.N_nil _ _ _ _ _ | exact Kd.V_nil _ _ _ _ _ | exact Kd.Q_nil _ _ _ _ _ | exact Kd.S_nil _ _ _ _ _, hC_⟩
   rw [if_pos c20] at H
   have c20b0 : (t1 == 0) = true := beq_iff_eq.mpr c20
   have c20b1 : (t1 != 0) = false := bne_eq_false_iff_eq.mpr c20
   clear c20
   obtain ⟨y2, i0⟩ : ∃ y_ : List (S53), y_ = (([] : List (S53))) := ⟨_, rfl⟩
   replace H : (if y2.length + l0_2.length < 8796093022208 then ((some (y2 ++ l0_2 : List (S53))).bind fun y0 => (if y0.length < 8796093022208 then ((sleuthref12_with.f kj2 l0_0 a0_1 l0_2 (y0 ++ [(⟨t0, a1⟩ : S53)])).bind fun bt477 => (some (bt477.1, bt477.2.1, bt477.2.2, 0))) else (none))) else (none)) = some (r1, r2, r3, r4) := by first | (rw [i0]; with_reducible exact H) | (have H2_ := (Option.bind_some _ _).symm.trans H; rw [i0]; with_reducible exact H2_) | (have H2_ := (Option.bind_some _ _).symm.trans H; with_reducible exact H2_) | with_reducible exact H | (rw [i0]; exact H) | exact H
   have Y0 := a_ i0
   clear i0
   replace H := ifI_ H; obtain ⟨c21, H⟩ := H
   have LMc21 := a_ c21
   clear c21
   obtain ⟨y0, i1⟩ : ∃ y_ : List (S53), y_ = (y2 ++ l0_2) := ⟨_, rfl⟩
   replace H : (if y0.length < 8796093022208 then ((sleuthref12_with.f kj2 l0_0 a0_1 l0_2 (y0 ++ [(⟨t0, a1⟩ : S53)])).bind fun bt477 => (some (bt477.1, bt477.2.1, bt477.2.2, 0))) else (none)) = some (r1, r2, r3, r4) := by first | (rw [i1]; with_reducible exact H) | (have H2_ := (Option.bind_some _ _).symm.trans H; rw [i1]; with_reducible exact H2_) | (have H2_ := (Option.bind_some _ _).symm.trans H; with_reducible exact H2_) | with_reducible exact H | (rw [i1]; exact H) | exact H
   have Y1 := a_ i1
   clear i1
   replace H := ifI_ H; obtain ⟨c22, H⟩ := H
   have LMc22 := a_ c22
   clear c22
   obtain ⟨y1, i2⟩ : ∃ y_ : List (S53), y_ = (y0 ++ [(⟨t0, a1⟩ : S53)]) := ⟨_, rfl⟩
   replace H : ((sleuthref12_with.f kj2 l0_0 a0_1 l0_2 y1).bind fun bt477 => (some (bt477.1, bt477.2.1, bt477.2.2, 0))) = some (r1, r2, r3, r4) := by first | (rw [i2]; with_reducible exact H) | (have H2_ := (Option.bind_some _ _).symm.trans H; rw [i2]; with_reducible exact H2_) | (have H2_ := (Option.bind_some _ _).symm.trans H; with_reducible exact H2_) | with_reducible exact H | (rw [i2]; exact H) | exact H
   have Y2 := a_ i2
   clear i2
   replace H := Option.bind_eq_some_iff.mp H
   obtain ⟨⟨t4, t5, t6⟩, A230, H⟩ := H
   try dsimp only at H
   have A23 := a_ A230
   clear A230
   simp only [Option.some.injEq, Prod.mk.injEq] at H
   obtain ⟨rfl, rfl, rfl, rfl⟩ := H
   have m9 := N2.out
   have n9 := N3.out
   obtain ⟨z25, z26, z27, f25, f26, f27⟩ := bx3_ B0.out
   go_wp2_with (first | ((with_reducible refine gate_callee (f := 26) rfl ?_); refine goesL_ (some 20) rfl rfl Tryz.func26 (by kernel_rfl) rfl #[.agg #[.slice A0_0 l0_0.length c0_0, .int .i64 a0_1, .slice A0_2 l0_2.length c0_2]] rfl hL_ ?_; (with_reducible refine (sleuthref12_Step.calls kj2 _ _ l0_0 a0_1 _ _ l0_2 t1 t0 t2 _ ?s1 ?s2 ?s3 ?s4 A18.out).mono ?_); (case s1 => exact cB_ HR0_0.out); (case s2 => exact HC0_0.out); (case s3 => exact cB_ HR0_2.out); (case s4 => exact HC0_2.out); rintro e w9 ⟨rfl, hb⟩; refine ⟨_, rfl, ?_⟩; replace B0 := a_ (bB_ B0.out hb); replace B1 := a_ (bB_ B1.out hb); replace HB := a_ (below_step hC_ hb); (try clear hb); (try clear hb2); (try clear hk); (try clear hi)) | ((with_reducible refine gate_dst (N := 6) rfl ?_); refine boxE_ 6 #[.int .i64 0, .int .i64 0] 49 ?_; intro g0 hg w27 hbox hb; have B2 := a_ (hbox); have E0 := a_ ((gE_ hg : w.heap.size ≤ g0)); replace HB := a_ (below_step hC_ hb); have N1 := a_ ((bL_ B0.out hg : g2 ≠ g0)); have N4 := a_ ((bG_ B0.out hg : g0 ≠ g2)); replace B0 := a_ (bB_ B0.out hb); have N0 := a_ ((bL_ B1.out hg : g1 ≠ g0)); have N5 := a_ ((bG_ B1.out hg : g0 ≠ g1)); replace B1 := a_ (bB_ B1.out hb); clear hb hbox hg; have m10 := N4.out; have n10 := N1.out; have m11 := N5.out; have n11 := N0.out; obtain ⟨z28, z29, f28, f29⟩ := bx2_ B2.out) | ((with_reducible refine gate_dst (N := 31) rfl ?_); refine Kd.R_lit k53 _ 53 ?hg (N := 31) ?hd (xs := ([] : List (S53))) (inner := []) (ok := fun _ => True) (okp := fun _ => True) ?hr ?hp (fun _ hk => hk) trivial (Below.refl _ _) (Nat.le_refl _) (by simp) ?_; (case hd => rfl); (case hg => rfl); (case hr => first | (go_simp; done) | (go_simp; rfl)); (case hp => exact (Reps.none _ _)); intro v1 w31 ho32 hb hg_ hnew_; clear hg_ hnew_; (first | rw [← Y0.out] at ho32 | (simp only [Int.reduceToNat] at ho32; rw [← Y0.out] at ho32)); have P1 := a_ (Kd.R_lower (Kd.R_newM (M := fun k_ => (w.heap.size ≤ k_)) ho32 (below_size hC_) (fun k_ h_ => h_)) (below_size hC_)); replace B0 := a_ (blk_below (g := g2) (o := .cells #[.slice A0_0 l0_0.length c0_0, .int .i64 a0_1, .slice A0_2 l0_2.length c0_2] 25 (0, 0)) (by (with_reducible repeat (first | refine blk_drewN ?_ _ | refine blk_drew ?_ | refine blk_alloc ?_ _)); exact (bF_ (bF_ (hK_ B0.out) N1.out) N1.out)) hb); replace B1 := a_ (blk_below (g := g1) (o := .cells #[.slice none 0 0, .int .i64 0, .slice none 0 0] 25 (0, 0)) (by (with_reducible repeat (first | refine blk_drewN ?_ _ | refine blk_drew ?_ | refine blk_alloc ?_ _)); exact (bF_ (bF_ (hK_ B1.out) N0.out) N0.out)) hb); replace B2 := a_ (blk_below (g := g0) (o := .cells #[.int .i64 t1, .int .i64 t0] 49 (0, 0)) (by (with_reducible repeat (first | refine blk_drewN ?_ _ | refine blk_drew ?_ | refine blk_alloc ?_ _)); exact (bP_ (bP_ (hK_ B2.out)))) hb); replace HB := a_ (below_step hC_ hb); clear hb ho32; obtain ⟨z30, z31, z32, f30, f31, f32⟩ := bx3_ B0.out) | ((with_reducible refine gate_builtin (b := .append) (xs := #[.tmp 31, .tmp 33]) rfl ?_); at_builtin; refine Kd.R_append_rows k53 (w0 := w) w.heap.size rfl (.tmp 31) (.tmp 33) 23 53 (.agg #[(.int .i64 0), (.int .i64 0)]) 16 rfl Tryz.underlying23 info53 rfl (by decide) (by omega) v1 y2 l0_2 _ _ _ (fun k_ => (w.heap.size ≤ k_)) (fun _ => False) rfl rfl ?aO ?aR (fun _ _ h => h) (fun _ h => h.elim) ?aF ?aB ?aS ?aL ?_; (case aR => exact cB_ HR0_2.out); (case aB => exact hC_); (case aF => exact (fun k_ hk => (Nat.le_trans (below_size hC_) hk))); (case aO => exact (by (with_reducible repeat (first | apply Kd.R_alloc | apply Kd.R_drewN | apply Kd.R_drew)); exact Kd.R_mono P1.out (fun _ hk => hk.1))); (case aS => exact (below_size hC_)); (case aL => have := LMc21.out; omega); intro v2 w34 ho hb hg hat; rw [← Y1.out] at ho; replace B0 := a_ (blk_grown (hK_ B0.out) hg (Kd.R_ne P1.out B0.out (by decide))); replace B1 := a_ (blk_grown (hK_ B1.out) hg (Kd.R_ne P1.out B1.out (by decide))); replace B2 := a_ (blk_grown (hK_ B2.out) hg (Kd.R_ne P1.out B2.out (by decide))); replace HB := a_ (hb); have P2 := a_ (ho); clear P1; clear ho hb hg hat; obtain ⟨z33, z34, f33, f34⟩ := bx2_ B2.out) | ((with_reducible refine gate_builtin (b := .append) (xs := #[.tmp 35, .tmp 40]) rfl ?_); at_builtin; refine Kd.R_append k53 (w0 := w) w.heap.size rfl (.tmp 35) (.tmp 40) 23 53 (.agg #[(.int .i64 0), (.int .i64 0)]) 16 rfl Tryz.underlying23 info53 rfl (by decide) (by omega) v2 y0 (⟨t0, a1⟩ : S53) [.int .i64 t0, .int .i64 a1] (fun k_ => (w.heap.size ≤ k_)) (fun _ => False) rfl rfl ?aP (fun _ hk => hk.elim) ?aF ?aO ?aB ?aS ?aL ?_; (case aP => exact k53_mkM _ _ _ (⟨t0, a1⟩ : S53)); (case aB => exact hC_); (case aF => exact (fun k_ hk => (Nat.le_trans (below_size hC_) hk))); (case aO => exact (hR_ P2.out)); (case aS => exact (below_size hC_)); (case aL => have := LMc22.out; omega); intro v4 w36 ho hb hg hat; rw [← Y2.out] at ho; replace B0 := a_ (blk_grown (hK_ B0.out) hg (Kd.R_ne P2.out B0.out (by decide))); replace B1 := a_ (blk_grown (hK_ B1.out) hg (Kd.R_ne P2.out B1.out (by decide))); replace B2 := a_ (blk_grown (hK_ B2.out) hg (Kd.R_ne P2.out B2.out (by decide))); replace HB := a_ (hb); have P0 := a_ (ho); clear P2; clear ho hb hg hat; obtain ⟨z35, z36, z37, f35, f36, f37⟩ := bx3_ B0.out; obtain ⟨a0, o0, e0⟩ := Kd.R_slice P0.out; subst e0) | ((with_reducible refine gate_callee (f := 27) rfl ?_); refine goesL_ (some 44) rfl rfl Tryz.func27 (by kernel_rfl) rfl #[.agg #[.slice A0_0 l0_0.length c0_0, .int .i64 a0_1, .slice A0_2 l0_2.length c0_2], .slice a0 y1.length o0] rfl hL_ ?_; (with_reducible refine (sleuthref12_with.calls kj2 _ _ l0_0 a0_1 _ _ l0_2 (fun k_ => some k_ = (.slice a0 y1.length o0 : Value).ownBlock) (.slice a0 y1.length o0) y1 t4 t5 t6 w _ ?s1 ?s2 ?s3 ?s4 ?s5 ?s6 A23.out).mono ?_); (case s1 => repeat (first | (with_reducible first | exact HB.out | apply below_alloc | apply pw_below_drewN | apply below_drew1 | refine below_set ?_ E1.out | refine below_set ?_ E2.out | refine below_set ?_ E0.out) | exact HB.out)); (case s2 => exact Kd.C_kept_came k66_heap HR0_0.out hC_ (fun k_ hs_ => (fun e_ => Kd.R_base P0.out k_ e_.symm) hs_)); (case s3 => exact HC0_0.out); (case s4 => exact Kd.C_kept_came k53_heap HR0_2.out hC_ (fun k_ hs_ => (fun e_ => Kd.R_base P0.out k_ e_.symm) hs_)); (case s5 => exact HC0_2.out); (case s6 => exact Kd.R_tight rfl P0.out); rintro e w39 ⟨v5, v3, rfl, ho0, ho1, hb, hkp⟩; refine ⟨_, rfl, ?_⟩; have P3 := a_ (Kd.N_lower (Kd.N_mono (ok' := fun k_ => (w.heap.size ≤ k_) ∧ some k_ ≠ (v3 : Value).ownBlock ∧ k_ ≠ g2 ∧ k_ ≠ g1 ∧ k_ ≠ g0) ho0 (fun k_ hk_ => ⟨Or.elim hk_.1 (fun hs_ => (P0.out.1 k_ (hs_).symm)) (fun hn_ => (Nat.le_trans (below_size hC_) hn_)), hk_.2, Or.elim hk_.1 (fun hs_ => fun e_ => (Kd.R_ne P0.out B0.out (by decide)) (by rw [← e_]; exact hs_)) (fun hn_ => (Kd.freshB (g := g2) (o := .cells #[.slice A0_0 l0_0.length c0_0, .int .i64 a0_1, .slice A0_2 l0_2.length c0_2] 25 (0, 0)) (hK_ B0.out) k_ hn_)), Or.elim hk_.1 (fun hs_ => fun e_ => (Kd.R_ne P0.out B1.out (by decide)) (by rw [← e_]; exact hs_)) (fun hn_ => (Kd.freshB (g := g1) (o := .cells #[.slice none 0 0, .int .i64 0, .slice none 0 0] 25 (0, 0)) (hK_ B1.out) k_ hn_)), Or.elim hk_.1 (fun hs_ => fun e_ => (Kd.R_ne P0.out B2.out (by decide)) (by rw [← e_]; exact hs_)) (fun hn_ => (Kd.freshB (g := g0) (o := .cells #[.int .i64 t1, .int .i64 t0] 49 (0, 0)) (hK_ B2.out) k_ hn_))⟩)) (below_size hC_)); replace B0 := a_ (blk_kept (hK_ B0.out) hkp (fun hs_ => (fun e_ => (Kd.R_ne P0.out B0.out (by decide)) e_) hs_)); replace B1 := a_ (blk_kept (hK_ B1.out) hkp (fun hs_ => (fun e_ => (Kd.R_ne P0.out B1.out (by decide)) e_) hs_)); replace B2 := a_ (blk_kept (hK_ B2.out) hkp (fun hs_ => (fun e_ => (Kd.R_ne P0.out B2.out (by decide)) e_) hs_)); have P4 := a_ (Kd.R_mono (ok' := fun k_ => (w.heap.size ≤ k_)) ho1 (fun k_ hk_ => Or.elim hk_ (fun hs_ => (P0.out.1 k_ (hs_).symm)) (fun hn_ => (Nat.le_trans (below_size hC_) hn_)))); replace HB := a_ (hb); clear P0; (try clear hb); (try clear hkp); (try clear ho0); (try clear ho1); obtain ⟨a2, o1, e1⟩ := Kd.N_slice P3.out; subst e1; obtain ⟨z38, z39, z40, f38, f39, f40⟩ := bx3_ B1.out; obtain ⟨a3, o2, e2⟩ := Kd.R_slice P4.out; subst e2))
   refine bodyPost_ret (results_ct rfl _ _ g1 25 #[.slice a2 t4.length o1, .int .i64 t5, .slice a3 t6.length o2] (0, 0) _ rfl (bP_ (bP_ (bP_ (hK_ B1.out)))) Tryz.underlying25 rfl (by kernel_rfl)) rfl ?_
   exact ⟨_, _, hV_, by (with_reducible repeat (first | apply Kd.N_alloc | apply Kd.N_drewN | apply Kd.N_drew)); exact Kd.N_mono (nF_ (nF_ (nF_ (Kd.N_mono P3.out (fun k_ hk => (⟨hk, hk.2.2.2.1⟩ : _ ∧ k_ ≠ g1)))))) (fun _ hk => ⟨hk.1.1, hk.1.2.1⟩), hR_ (Kd.R_mono (rF_ (rF_ (rF_ (Kd.R_types P4.out B1.out (by decide))))) (fun _ hk => hk.1)), hC_⟩
set_option maxHeartbeats 8000000
set_option maxRecDepth 100000
attribute [local go_sem] max2_int min2_int max_two min_two max_three min_three max_four min_four   -- for this text's walks alone
set_option linter.unusedVariables false
set_option linter.unusedSimpArgs false

def sleuthlaw22_Answers.f (k : Nat) (l0s : List S66) (ns : Int) (l2s : List S53) (a1 : Int) : Option Bool :=
 (sleuthlaw0_CopySession.f k l0s ns l2s).bind fun x => (answer_Put.f k x.1 x.2.1 x.2.2 a1).bind fun a => (sleuthref12_PutAnswer.f k l0s ns l2s a1).bind fun b => (answer_Undo.f k x.1 x.2.1 x.2.2).bind fun c => (sleuthref12_Undo.f k l0s ns l2s).bind fun d =>
 (sleuthlaw0_SameSession.f k a.1 a.2.1 a.2.2.1 b.1 b.2.1 b.2.2.1).bind fun t1 => if t1 = true then (sleuthlaw0_Num.f a.2.2.2).bind fun t2 => if t2 = b.2.2.2 then (sleuthlaw0_SameSession.f k c.1 c.2.1 c.2.2.1 d.1 d.2.1 d.2.2.1).bind fun t3 => if t3 = true then (sleuthlaw0_Num.f c.2.2.2).bind fun t4 => if t4 = d.2.2.2 then
 (sleuthlaw0_SpoilSession.f k a.1 a.2.1 a.2.2.1).bind fun _ => (sleuthlaw0_SpoilSession.f k c.1 c.2.1 c.2.2.1).bind fun _ => (sleuthlaw0_SameSession.f k x.1 x.2.1 x.2.2 l0s ns l2s).bind fun t5 => if t5 = true then sleuthlaw22_awake.f k else none else none else none else none else none
theorem sleuthlaw22_Answers.calls (k : Nat) (A0s : Option Addr) (c0s : Nat) (l0s : List S66) (ns : Int) (A2s : Option Addr) (c2s : Nat) (l2s : List S53) (a1 : Int) (r : Bool) (w : World) (hr0 : Kd.C k66 w A0s l0s.length l0s) (hc0 : l0s.length ≤ c0s) (hr2 : Kd.C k53 w A2s l2s.length l2s) (hc2 : l2s.length ≤ c2s) (h : sleuthlaw22_Answers.f k l0s ns l2s a1 = some r) (hG : GOK w) :
 Calls Tryz.prog 3 #[.agg #[.slice A0s l0s.length c0s, .int .i64 ns, .slice A2s l2s.length c2s], .int .i64 a1] w fun e w' => e = .returned (.bool r) ∧ Below w.heap.size w w' := by
 have hu := Tryz.underlying25
 have HRs0 := a_ hr0
 have HCs0 := a_ hc0
 have HRs2 := a_ hr2
 have HCs2 := a_ hc2
 clear hr0 hc0 hr2 hc2
 have HB := a_ (Below.refl w.heap.size w)
 unfold sleuthlaw22_Answers.f at h
 obtain ⟨⟨l0x, nx, l2x⟩, B1_, h⟩ := Option.bind_eq_some_iff.mp h
 (try dsimp only at h)
 have B1 := a_ B1_
 clear B1_
 obtain ⟨⟨l0a, na, l2a, ea⟩, B2_, h⟩ := Option.bind_eq_some_iff.mp h
 (try dsimp only at h)
 have B2 := a_ B2_
 clear B2_
 obtain ⟨⟨l0b, nb, l2b, eb⟩, B3_, h⟩ := Option.bind_eq_some_iff.mp h
 (try dsimp only at h)
 have B3 := a_ B3_
 clear B3_
 obtain ⟨⟨l0c, nc, l2c, ec⟩, B4_, h⟩ := Option.bind_eq_some_iff.mp h
 (try dsimp only at h)
 have B4 := a_ B4_
 clear B4_
 obtain ⟨⟨l0d, nd, l2d, ed⟩, B5_, h⟩ := Option.bind_eq_some_iff.mp h
 (try dsimp only at h)
 have B5 := a_ B5_
 clear B5_
 obtain ⟨t1, B6_, h⟩ := Option.bind_eq_some_iff.mp h
 (try dsimp only at h)
 have B6 := a_ B6_
 clear B6_
 by_cases c1 : t1 = true
 case neg => rw [if_neg c1] at h; cases h
 rw [if_pos c1] at h
 obtain ⟨t2, B7_, h⟩ := Option.bind_eq_some_iff.mp h
 (try dsimp only at h)
 have B7 := a_ B7_
 clear B7_
 by_cases c2 : t2 = eb
 case neg => rw [if_neg c2] at h; cases h
 rw [if_pos c2] at h
 obtain ⟨t3, B8_, h⟩ := Option.bind_eq_some_iff.mp h
 (try dsimp only at h)
 have B8 := a_ B8_
 clear B8_
 by_cases c3 : t3 = true
 case neg => rw [if_neg c3] at h; cases h
 rw [if_pos c3] at h
 obtain ⟨t4, B9_, h⟩ := Option.bind_eq_some_iff.mp h
 (try dsimp only at h)
 have B9 := a_ B9_
 clear B9_
 by_cases c4 : t4 = ed
 case neg => rw [if_neg c4] at h; cases h
 rw [if_pos c4] at h
 obtain ⟨_, B10_, h⟩ := Option.bind_eq_some_iff.mp h
 (try dsimp only at h)
 have B10 := a_ B10_
 clear B10_
 obtain ⟨_, B11_, h⟩ := Option.bind_eq_some_iff.mp h
 (try dsimp only at h)
 have B11 := a_ B11_
 clear B11_
 obtain ⟨t5, B12_, h⟩ := Option.bind_eq_some_iff.mp h
 (try dsimp only at h)
 have B12 := a_ B12_
 clear B12_
 by_cases c5 : t5 = true
 case neg => rw [if_neg c5] at h; cases h
 rw [if_pos c5] at h
 subst c1 c3 c5
 have B13 := a_ h
 clear h
 have c2a : (t2 == eb) = true := beq_iff_eq.mpr c2
 have c2b : (t2 != eb) = false := bne_eq_false_iff_eq.mpr c2
 have c4a : (t4 == ed) = true := beq_iff_eq.mpr c4
 have c4b : (t4 != ed) = false := bne_eq_false_iff_eq.mpr c4
 clear c2 c4
 go_enter Tryz.func3, Tryz.ntmps3
 go_wp2_with (first
  | ((with_reducible refine gate_dst (N := 2) rfl ?_); refine boxE_ 2 #[.slice A0s l0s.length c0s, .int .i64 ns, .slice A2s l2s.length c2s] 25 ?_; intro g0 hg wb2 hbox hb; have E0 := a_ (gE_ hg : w.heap.size ≤ g0); have B0 := a_ hbox; (try clear z0 f0 z1 f1 z2 f2); obtain ⟨z0, z1, z2, f0, f1, f2⟩ := bx3_ B0.out; have hs_ := below_step hC_ hb; replace HB := a_ hs_; clear hs_ hb hbox hg)
  | ((with_reducible refine gate_callee (f := 7) rfl ?_); refine goesL_ _ rfl rfl Tryz.func7 (by kernel_rfl) rfl #[.agg #[.slice A0s l0s.length c0s, .int .i64 ns, .slice A2s l2s.length c2s]] rfl hL_ ?_; (with_reducible refine (sleuthlaw0_CopySession.calls k _ _ l0s ns _ _ l2s l0x nx l2x _ ?s1 ?s2 ?s3 ?s4 B1.out).mono ?_); (case s1 => exact (Kd.C_below HRs0.out hC_)); (case s2 => exact HCs0.out); (case s3 => exact (Kd.C_below HRs2.out hC_)); (case s4 => exact HCs2.out); rintro e w1 ⟨v0_, v2_, rfl, hs0, hr1, hb⟩; refine ⟨_, rfl, ?_⟩; have hs_ := below_step hC_ hb; obtain ⟨A0x, c0x, rfl⟩ := Kd.S_slice hs0; obtain ⟨A2x, c2x, rfl⟩ := Kd.R_slice hr1; have HRx0 := a_ (Kd.S_reads' hs0).2.2; have HCx0 := a_ (Kd.S_reads' hs0).2.1; have HRx2 := a_ (Kd.R_reads' hr1).2.2; have HCx2 := a_ (Kd.R_reads' hr1).2.1; replace HRs0 := a_ (Kd.C_below HRs0.out hs_); replace HRs2 := a_ (Kd.C_below HRs2.out hs_); replace B0 := a_ (blk_below (g := g0) (o := .cells #[.slice A0s l0s.length c0s, .int .i64 ns, .slice A2s l2s.length c2s] 25 (0, 0)) (by (with_reducible repeat (first | refine blk_drewN ?_ _ | refine blk_drew ?_ | refine blk_alloc ?_ _)); exact (hK_ B0.out)) hb); have X0 := a_ hs_; replace hG := GOK.below hG hs_; have HX := a_ (Below.refl w1.heap.size w1); replace HB := a_ (Below.refl w1.heap.size w1); clear hs_ hb hs0 hr1; (try clear z0 f0 z1 f1 z2 f2); obtain ⟨z0, z1, z2, f0, f1, f2⟩ := bx3_ B0.out)
  | ((with_reducible refine gate_dst (N := 5) rfl ?_); refine boxE_ 5 #[.slice none 0 0, .int .i64 0, .slice none 0 0] 25 ?_; intro g1 hg wb5 hbox hb; have E1 := a_ (gE_ hg : w1.heap.size ≤ g1); have m0 := (bL_ B0.out hg : g0 ≠ g1); have m1 := (bG_ B0.out hg : g1 ≠ g0); have BK5 := a_ hbox; (try clear z0 f0 z1 f1 z2 f2); obtain ⟨z0, z1, z2, f0, f1, f2⟩ := bx3_ (bB_ B0.out hb); (try clear z3 f3 z4 f4 z5 f5); obtain ⟨z3, z4, z5, f3, f4, f5⟩ := bx3_ BK5.out; have hs_ := below_step hC_ hb; replace HB := a_ hs_; clear hs_ hb hbox hg)
  | ((with_reducible refine gate_callee (f := 8) rfl ?_); refine goesL_ _ rfl rfl Tryz.func8 (by kernel_rfl) rfl #[.agg #[.slice A0x l0x.length c0x, .int .i64 nx, .slice A2x l2x.length c2x], .int .i64 a1] rfl hL_ ?_; (with_reducible refine (answer_Put.calls k _ _ l0x nx _ _ l2x a1 l0a na l2a ea _ ?s1 ?s2 ?s3 ?s4 B2.out (GOK.below hG (below_step HX.out hC_))).mono ?_); (case s1 => exact (Kd.C_below HRx0.out (below_step HX.out hC_))); (case s2 => exact HCx0.out); (case s3 => exact (Kd.C_below HRx2.out (below_step HX.out hC_))); (case s4 => exact HCx2.out); rintro e wc2 ⟨v0_, v2_, rfl, hs0, hr1, hb⟩; refine ⟨_, rfl, ?_⟩; have hs_ := below_step hC_ hb; obtain ⟨A0a, c0a, rfl⟩ := Kd.S_slice hs0; obtain ⟨A2a, c2a, rfl⟩ := Kd.R_slice hr1; have HOa0 := a_ (Kd.S_lower hs0 (below_size (below_step HX.out hC_))); have HOa2 := a_ (Kd.R_lower hr1 (below_size (below_step HX.out hC_))); replace B0 := a_ (blk_below B0.out hs_); replace BK5 := a_ (blk_below (g := g1) (o := .cells #[.slice A0x l0x.length c0x, .int .i64 nx, .slice A2x l2x.length c2x] 25 (0, 0)) (by (with_reducible repeat (first | refine blk_drewN ?_ _ | refine blk_drew ?_ | refine blk_alloc ?_ _)); exact (bP_ (bP_ (bP_ (hK_ BK5.out))))) hb); replace HX := a_ (below_step HX.out hs_); replace HB := a_ (Below.refl wc2.heap.size wc2); clear hs_ hb hs0 hr1; (try clear z0 f0 z1 f1 z2 f2); obtain ⟨z0, z1, z2, f0, f1, f2⟩ := bx3_ B0.out; (try clear z3 f3 z4 f4 z5 f5); obtain ⟨z3, z4, z5, f3, f4, f5⟩ := bx3_ BK5.out)
  | ((with_reducible refine gate_dst (N := 6) rfl ?_); refine boxE_ 6 #[.slice none 0 0, .int .i64 0, .slice none 0 0] 25 ?_; intro g2 hg wb6 hbox hb; have E2 := a_ (gE_ hg : wc2.heap.size ≤ g2); have m2 := (bL_ B0.out hg : g0 ≠ g2); have m3 := (bG_ B0.out hg : g2 ≠ g0); have m4 := (bL_ BK5.out hg : g1 ≠ g2); have m5 := (bG_ BK5.out hg : g2 ≠ g1); have BK6 := a_ hbox; (try clear z0 f0 z1 f1 z2 f2); obtain ⟨z0, z1, z2, f0, f1, f2⟩ := bx3_ (bB_ B0.out hb); (try clear z3 f3 z4 f4 z5 f5); obtain ⟨z3, z4, z5, f3, f4, f5⟩ := bx3_ (bB_ BK5.out hb); (try clear z6 f6 z7 f7 z8 f8); obtain ⟨z6, z7, z8, f6, f7, f8⟩ := bx3_ BK6.out; have hs_ := below_step hC_ hb; replace HB := a_ hs_; clear hs_ hb hbox hg)
  | ((with_reducible refine gate_callee (f := 9) rfl ?_); refine goesL_ _ rfl rfl Tryz.func9 (by kernel_rfl) rfl #[.agg #[.slice A0s l0s.length c0s, .int .i64 ns, .slice A2s l2s.length c2s], .int .i64 a1] rfl hL_ ?_; (with_reducible refine (sleuthref12_PutAnswer.calls k _ _ l0s ns _ _ l2s a1 l0b nb l2b eb _ ?s1 ?s2 ?s3 ?s4 B3.out).mono ?_); (case s1 => exact (Kd.C_below HRs0.out (below_step HX.out hC_))); (case s2 => exact HCs0.out); (case s3 => exact (Kd.C_below HRs2.out (below_step HX.out hC_))); (case s4 => exact HCs2.out); rintro e wc3 ⟨v0_, v2_, rfl, hn0, hr1, hb⟩; refine ⟨_, rfl, ?_⟩; have hs_ := below_step hC_ hb; obtain ⟨A0b, c0b, rfl⟩ := Kd.N_slice hn0; obtain ⟨A2b, c2b, rfl⟩ := Kd.R_slice hr1; have HOb0 := a_ (Kd.N_reads' hn0).2.2; have HCb0 := a_ (Kd.N_reads' hn0).2.1; have HOb2 := a_ (Kd.R_reads' hr1).2.2; have HCb2 := a_ (Kd.R_reads' hr1).2.1; replace HOa0 := a_ (Kd.S_below HOa0.out hs_); replace HOa2 := a_ (Kd.R_below HOa2.out hs_); replace B0 := a_ (blk_below B0.out hs_); replace BK5 := a_ (blk_below BK5.out hs_); replace BK6 := a_ (blk_below (g := g2) (o := .cells #[.slice A0a l0a.length c0a, .int .i64 na, .slice A2a l2a.length c2a] 25 (0, 0)) (by (with_reducible repeat (first | refine blk_drewN ?_ _ | refine blk_drew ?_ | refine blk_alloc ?_ _)); exact (bP_ (bP_ (bP_ (hK_ BK6.out))))) hb); replace HX := a_ (below_step HX.out hs_); replace HB := a_ (Below.refl wc3.heap.size wc3); clear hs_ hb hn0 hr1; (try clear z0 f0 z1 f1 z2 f2); obtain ⟨z0, z1, z2, f0, f1, f2⟩ := bx3_ B0.out; (try clear z3 f3 z4 f4 z5 f5); obtain ⟨z3, z4, z5, f3, f4, f5⟩ := bx3_ BK5.out; (try clear z6 f6 z7 f7 z8 f8); obtain ⟨z6, z7, z8, f6, f7, f8⟩ := bx3_ BK6.out)
  | ((with_reducible refine gate_dst (N := 8) rfl ?_); refine boxE_ 8 #[.slice none 0 0, .int .i64 0, .slice none 0 0] 25 ?_; intro g3 hg wb8 hbox hb; have E3 := a_ (gE_ hg : wc3.heap.size ≤ g3); have m6 := (bL_ B0.out hg : g0 ≠ g3); have m7 := (bG_ B0.out hg : g3 ≠ g0); have m8 := (bL_ BK5.out hg : g1 ≠ g3); have m9 := (bG_ BK5.out hg : g3 ≠ g1); have m10 := (bL_ BK6.out hg : g2 ≠ g3); have m11 := (bG_ BK6.out hg : g3 ≠ g2); have BK8 := a_ hbox; (try clear z0 f0 z1 f1 z2 f2); obtain ⟨z0, z1, z2, f0, f1, f2⟩ := bx3_ (bB_ B0.out hb); (try clear z3 f3 z4 f4 z5 f5); obtain ⟨z3, z4, z5, f3, f4, f5⟩ := bx3_ (bB_ BK5.out hb); (try clear z6 f6 z7 f7 z8 f8); obtain ⟨z6, z7, z8, f6, f7, f8⟩ := bx3_ (bB_ BK6.out hb); (try clear z9 f9 z10 f10 z11 f11); obtain ⟨z9, z10, z11, f9, f10, f11⟩ := bx3_ BK8.out; have hs_ := below_step hC_ hb; replace HB := a_ hs_; clear hs_ hb hbox hg)
  | ((with_reducible refine gate_callee (f := 10) rfl ?_); refine goesL_ _ rfl rfl Tryz.func10 (by kernel_rfl) rfl #[.agg #[.slice A0x l0x.length c0x, .int .i64 nx, .slice A2x l2x.length c2x]] rfl hL_ ?_; (with_reducible refine (answer_Undo.calls k _ _ l0x nx _ _ l2x  l0c nc l2c ec _ ?s1 ?s2 ?s3 ?s4 B4.out (GOK.below hG (below_step HX.out hC_))).mono ?_); (case s1 => exact (Kd.C_below HRx0.out (below_step HX.out hC_))); (case s2 => exact HCx0.out); (case s3 => exact (Kd.C_below HRx2.out (below_step HX.out hC_))); (case s4 => exact HCx2.out); rintro e wc4 ⟨v0_, v2_, rfl, hs0, hr1, hb⟩; refine ⟨_, rfl, ?_⟩; have hs_ := below_step hC_ hb; obtain ⟨A0c, c0c, rfl⟩ := Kd.S_slice hs0; obtain ⟨A2c, c2c, rfl⟩ := Kd.R_slice hr1; have HOc0 := a_ (Kd.S_lower hs0 (below_size hC_)); have HOc2 := a_ (Kd.R_lower hr1 (below_size hC_)); replace HOa0 := a_ (Kd.S_old HOa0.out hs_); have HLa2 := a_ (Kd.R_lt HOa2.out); replace HOa2 := a_ (Kd.R_below HOa2.out hs_); replace HOb0 := a_ (Kd.C_below HOb0.out hs_); replace HOb2 := a_ (Kd.C_below HOb2.out hs_); replace B0 := a_ (blk_below B0.out hs_); replace BK5 := a_ (blk_below BK5.out hs_); replace BK6 := a_ (blk_below BK6.out hs_); replace BK8 := a_ (blk_below (g := g3) (o := .cells #[.slice A0b l0b.length c0b, .int .i64 nb, .slice A2b l2b.length c2b] 25 (0, 0)) (by (with_reducible repeat (first | refine blk_drewN ?_ _ | refine blk_drew ?_ | refine blk_alloc ?_ _)); exact (bP_ (bP_ (bP_ (hK_ BK8.out))))) hb); have HN := a_ (below_size HX.out); replace HX := a_ (below_step HX.out hs_); replace HB := a_ (Below.refl wc4.heap.size wc4); clear hs_ hb hs0 hr1; (try clear z0 f0 z1 f1 z2 f2); obtain ⟨z0, z1, z2, f0, f1, f2⟩ := bx3_ B0.out; (try clear z3 f3 z4 f4 z5 f5); obtain ⟨z3, z4, z5, f3, f4, f5⟩ := bx3_ BK5.out; (try clear z6 f6 z7 f7 z8 f8); obtain ⟨z6, z7, z8, f6, f7, f8⟩ := bx3_ BK6.out; (try clear z9 f9 z10 f10 z11 f11); obtain ⟨z9, z10, z11, f9, f10, f11⟩ := bx3_ BK8.out)
  | ((with_reducible refine gate_dst (N := 10) rfl ?_); refine boxE_ 10 #[.slice none 0 0, .int .i64 0, .slice none 0 0] 25 ?_; intro g4 hg wb10 hbox hb; have E4 := a_ (gE_ hg : wc4.heap.size ≤ g4); have m12 := (bL_ B0.out hg : g0 ≠ g4); have m13 := (bG_ B0.out hg : g4 ≠ g0); have m14 := (bL_ BK5.out hg : g1 ≠ g4); have m15 := (bG_ BK5.out hg : g4 ≠ g1); have m16 := (bL_ BK6.out hg : g2 ≠ g4); have m17 := (bG_ BK6.out hg : g4 ≠ g2); have m18 := (bL_ BK8.out hg : g3 ≠ g4); have m19 := (bG_ BK8.out hg : g4 ≠ g3); have B14 := a_ hbox; (try clear z0 f0 z1 f1 z2 f2); obtain ⟨z0, z1, z2, f0, f1, f2⟩ := bx3_ (bB_ B0.out hb); (try clear z3 f3 z4 f4 z5 f5); obtain ⟨z3, z4, z5, f3, f4, f5⟩ := bx3_ (bB_ BK5.out hb); (try clear z6 f6 z7 f7 z8 f8); obtain ⟨z6, z7, z8, f6, f7, f8⟩ := bx3_ (bB_ BK6.out hb); (try clear z9 f9 z10 f10 z11 f11); obtain ⟨z9, z10, z11, f9, f10, f11⟩ := bx3_ (bB_ BK8.out hb); (try clear z12 f12 z13 f13 z14 f14); obtain ⟨z12, z13, z14, f12, f13, f14⟩ := bx3_ B14.out; have hs_ := below_step hC_ hb; replace HB := a_ hs_; clear hs_ hb hbox hg)
  | ((with_reducible refine gate_callee (f := 11) rfl ?_); refine goesL_ _ rfl rfl Tryz.func11 (by kernel_rfl) rfl #[.agg #[.slice A0s l0s.length c0s, .int .i64 ns, .slice A2s l2s.length c2s]] rfl hL_ ?_; (with_reducible refine (sleuthref12_Undo.calls k _ _ l0s ns _ _ l2s  l0d nd l2d ed _ ?s1 ?s2 ?s3 ?s4 B5.out).mono ?_); (case s1 => exact (Kd.C_below HRs0.out (below_step HX.out hC_))); (case s2 => exact HCs0.out); (case s3 => exact (Kd.C_below HRs2.out (below_step HX.out hC_))); (case s4 => exact HCs2.out); rintro e wc5 ⟨v0_, v2_, rfl, hn0, hr1, hb⟩; refine ⟨_, rfl, ?_⟩; have hs_ := below_step hC_ hb; obtain ⟨A0d, c0d, rfl⟩ := Kd.N_slice hn0; obtain ⟨A2d, c2d, rfl⟩ := Kd.R_slice hr1; have HOd0 := a_ (Kd.N_reads' hn0).2.2; have HCd0 := a_ (Kd.N_reads' hn0).2.1; have HOd2 := a_ (Kd.R_reads' hr1).2.2; have HCd2 := a_ (Kd.R_reads' hr1).2.1; replace HOa0 := a_ (Kd.S_below HOa0.out hs_); replace HOa2 := a_ (Kd.R_below HOa2.out hs_); replace HOb0 := a_ (Kd.C_below HOb0.out hs_); replace HOb2 := a_ (Kd.C_below HOb2.out hs_); replace HOc0 := a_ (Kd.S_below HOc0.out hs_); replace HOc2 := a_ (Kd.R_below HOc2.out hs_); replace B0 := a_ (blk_below B0.out hs_); replace BK5 := a_ (blk_below BK5.out hs_); replace BK6 := a_ (blk_below BK6.out hs_); replace BK8 := a_ (blk_below BK8.out hs_); replace B14 := a_ (blk_below (g := g4) (o := .cells #[.slice A0c l0c.length c0c, .int .i64 nc, .slice A2c l2c.length c2c] 25 (0, 0)) (by (with_reducible repeat (first | refine blk_drewN ?_ _ | refine blk_drew ?_ | refine blk_alloc ?_ _)); exact (bP_ (bP_ (bP_ (hK_ B14.out))))) hb); replace HX := a_ (below_step HX.out hs_); replace HB := a_ (Below.refl wc5.heap.size wc5); clear hs_ hb hn0 hr1; (try clear z0 f0 z1 f1 z2 f2); obtain ⟨z0, z1, z2, f0, f1, f2⟩ := bx3_ B0.out; (try clear z3 f3 z4 f4 z5 f5); obtain ⟨z3, z4, z5, f3, f4, f5⟩ := bx3_ BK5.out; (try clear z6 f6 z7 f7 z8 f8); obtain ⟨z6, z7, z8, f6, f7, f8⟩ := bx3_ BK6.out; (try clear z9 f9 z10 f10 z11 f11); obtain ⟨z9, z10, z11, f9, f10, f11⟩ := bx3_ BK8.out; (try clear z12 f12 z13 f13 z14 f14); obtain ⟨z12, z13, z14, f12, f13, f14⟩ := bx3_ B14.out)
  | ((with_reducible refine gate_dst (N := 12) rfl ?_); refine boxE_ 12 #[.slice none 0 0, .int .i64 0, .slice none 0 0] 25 ?_; intro g5 hg wb12 hbox hb; have E5 := a_ (gE_ hg : wc5.heap.size ≤ g5); have m20 := (bL_ B0.out hg : g0 ≠ g5); have m21 := (bG_ B0.out hg : g5 ≠ g0); have m22 := (bL_ BK5.out hg : g1 ≠ g5); have m23 := (bG_ BK5.out hg : g5 ≠ g1); have m24 := (bL_ BK6.out hg : g2 ≠ g5); have m25 := (bG_ BK6.out hg : g5 ≠ g2); have m26 := (bL_ BK8.out hg : g3 ≠ g5); have m27 := (bG_ BK8.out hg : g5 ≠ g3); have m28 := (bL_ B14.out hg : g4 ≠ g5); have m29 := (bG_ B14.out hg : g5 ≠ g4); have B15 := a_ hbox; (try clear z0 f0 z1 f1 z2 f2); obtain ⟨z0, z1, z2, f0, f1, f2⟩ := bx3_ (bB_ B0.out hb); (try clear z3 f3 z4 f4 z5 f5); obtain ⟨z3, z4, z5, f3, f4, f5⟩ := bx3_ (bB_ BK5.out hb); (try clear z6 f6 z7 f7 z8 f8); obtain ⟨z6, z7, z8, f6, f7, f8⟩ := bx3_ (bB_ BK6.out hb); (try clear z9 f9 z10 f10 z11 f11); obtain ⟨z9, z10, z11, f9, f10, f11⟩ := bx3_ (bB_ BK8.out hb); (try clear z12 f12 z13 f13 z14 f14); obtain ⟨z12, z13, z14, f12, f13, f14⟩ := bx3_ (bB_ B14.out hb); (try clear z15 f15 z16 f16 z17 f17); obtain ⟨z15, z16, z17, f15, f16, f17⟩ := bx3_ B15.out; have hs_ := below_step hC_ hb; replace HB := a_ hs_; clear hs_ hb hbox hg)
  | ((with_reducible refine gate_callee (f := 12) rfl ?_); refine goesL_ _ rfl rfl Tryz.func12 (by kernel_rfl) rfl #[.agg #[.slice A0a l0a.length c0a, .int .i64 na, .slice A2a l2a.length c2a], .agg #[.slice A0b l0b.length c0b, .int .i64 nb, .slice A2b l2b.length c2b]] rfl hL_ ?_; (with_reducible refine (sleuthlaw0_SameSession.calls k _ _ l0a na _ _ l2a _ _ l0b nb _ _ l2b true _ ?s1 ?s2 ?s3 ?s4 ?s5 ?s6 ?s7 ?s8 B6.out).mono ?_); (case s1 => exact (Kd.S_reads' (Kd.S_below HOa0.out hC_)).2.2); (case s2 => exact (Kd.S_reads' HOa0.out).2.1); (case s3 => exact (Kd.R_reads' (Kd.R_below HOa2.out hC_)).2.2); (case s4 => exact (Kd.R_reads' HOa2.out).2.1); (case s5 => exact (Kd.C_below HOb0.out hC_)); (case s6 => exact HCb0.out); (case s7 => exact (Kd.C_below HOb2.out hC_)); (case s8 => exact HCb2.out); rintro e wc6 ⟨rfl, hb⟩; refine ⟨_, rfl, ?_⟩; have hs_ := below_step hC_ hb; replace HOa0 := a_ (Kd.S_below HOa0.out hs_); replace HOa2 := a_ (Kd.R_below HOa2.out hs_); replace HOb0 := a_ (Kd.C_below HOb0.out hs_); replace HOb2 := a_ (Kd.C_below HOb2.out hs_); replace HOc0 := a_ (Kd.S_below HOc0.out hs_); replace HOc2 := a_ (Kd.R_below HOc2.out hs_); replace HOd0 := a_ (Kd.C_below HOd0.out hs_); replace HOd2 := a_ (Kd.C_below HOd2.out hs_); replace B0 := a_ (blk_below B0.out hs_); replace BK5 := a_ (blk_below BK5.out hs_); replace BK6 := a_ (blk_below BK6.out hs_); replace BK8 := a_ (blk_below BK8.out hs_); replace B14 := a_ (blk_below B14.out hs_); replace B15 := a_ (blk_below (g := g5) (o := .cells #[.slice A0d l0d.length c0d, .int .i64 nd, .slice A2d l2d.length c2d] 25 (0, 0)) (by (with_reducible repeat (first | refine blk_drewN ?_ _ | refine blk_drew ?_ | refine blk_alloc ?_ _)); exact (bP_ (bP_ (bP_ (hK_ B15.out))))) hb); replace HX := a_ (below_step HX.out hs_); replace HB := a_ (Below.refl wc6.heap.size wc6); clear hs_ hb; (try clear z0 f0 z1 f1 z2 f2); obtain ⟨z0, z1, z2, f0, f1, f2⟩ := bx3_ B0.out; (try clear z3 f3 z4 f4 z5 f5); obtain ⟨z3, z4, z5, f3, f4, f5⟩ := bx3_ BK5.out; (try clear z6 f6 z7 f7 z8 f8); obtain ⟨z6, z7, z8, f6, f7, f8⟩ := bx3_ BK6.out; (try clear z9 f9 z10 f10 z11 f11); obtain ⟨z9, z10, z11, f9, f10, f11⟩ := bx3_ BK8.out; (try clear z12 f12 z13 f13 z14 f14); obtain ⟨z12, z13, z14, f12, f13, f14⟩ := bx3_ B14.out; (try clear z15 f15 z16 f16 z17 f17); obtain ⟨z15, z16, z17, f15, f16, f17⟩ := bx3_ B15.out)
  | (go_at_call 13; (with_reducible refine (sleuthlaw0_Num.calls ea t2 _ B7.out).mono ?_); rintro e w' ⟨rfl, ⟨nq_, rfl⟩⟩)
  | (go_at_call 12; (with_reducible refine (sleuthlaw0_SameSession.calls k _ _ l0c nc _ _ l2c _ _ l0d nd _ _ l2d true _ ?s1 ?s2 ?s3 ?s4 ?s5 ?s6 ?s7 ?s8 B8.out).mono ?_); (case s1 => exact (Kd.S_reads' (Kd.S_below HOc0.out hC_)).2.2); (case s2 => exact (Kd.S_reads' HOc0.out).2.1); (case s3 => exact (Kd.R_reads' (Kd.R_below HOc2.out hC_)).2.2); (case s4 => exact (Kd.R_reads' HOc2.out).2.1); (case s5 => exact (Kd.C_below HOd0.out hC_)); (case s6 => exact HCd0.out); (case s7 => exact (Kd.C_below HOd2.out hC_)); (case s8 => exact HCd2.out); rintro e wc7 ⟨rfl, hb⟩; have hs_ := below_step hC_ hb; replace HOa0 := a_ (Kd.S_below HOa0.out hs_); replace HOa2 := a_ (Kd.R_below HOa2.out hs_); replace HOb0 := a_ (Kd.C_below HOb0.out hs_); replace HOb2 := a_ (Kd.C_below HOb2.out hs_); replace HOc0 := a_ (Kd.S_below HOc0.out hs_); replace HOc2 := a_ (Kd.R_below HOc2.out hs_); replace HOd0 := a_ (Kd.C_below HOd0.out hs_); replace HOd2 := a_ (Kd.C_below HOd2.out hs_); replace B0 := a_ (blk_below B0.out hs_); replace BK5 := a_ (blk_below BK5.out hs_); replace BK6 := a_ (blk_below BK6.out hs_); replace BK8 := a_ (blk_below BK8.out hs_); replace B14 := a_ (blk_below B14.out hs_); replace B15 := a_ (blk_below B15.out hs_); replace HX := a_ (below_step HX.out hs_); replace HB := a_ (Below.refl wc7.heap.size wc7); clear hs_ hb; (try clear z0 f0 z1 f1 z2 f2); obtain ⟨z0, z1, z2, f0, f1, f2⟩ := bx3_ B0.out; (try clear z3 f3 z4 f4 z5 f5); obtain ⟨z3, z4, z5, f3, f4, f5⟩ := bx3_ BK5.out; (try clear z6 f6 z7 f7 z8 f8); obtain ⟨z6, z7, z8, f6, f7, f8⟩ := bx3_ BK6.out; (try clear z9 f9 z10 f10 z11 f11); obtain ⟨z9, z10, z11, f9, f10, f11⟩ := bx3_ BK8.out; (try clear z12 f12 z13 f13 z14 f14); obtain ⟨z12, z13, z14, f12, f13, f14⟩ := bx3_ B14.out; (try clear z15 f15 z16 f16 z17 f17); obtain ⟨z15, z16, z17, f15, f16, f17⟩ := bx3_ B15.out)
  | (go_at_call 13; (with_reducible refine (sleuthlaw0_Num.calls ec t4 _ B9.out).mono ?_); rintro e w' ⟨rfl, ⟨nq_, rfl⟩⟩)
  | ((with_reducible refine gate_callee (f := 14) rfl ?_); refine goesL_ _ rfl rfl Tryz.func14 (by kernel_rfl) rfl #[.agg #[.slice A0a l0a.length c0a, .int .i64 na, .slice A2a l2a.length c2a]] rfl hL_ ?_; (with_reducible refine (sleuthlaw0_SpoilSession.callsS k _ _ _ _ l0a na l2a w1 _ (below_step HX.out hC_) (Kd.S_bound (Kd.S_below HOa0.out hC_)) (Kd.R_tight rfl (Kd.R_below HOa2.out hC_)) B10.out).mono ?_); rintro e wc8 ⟨rfl, hb, hk⟩; refine ⟨_, rfl, ?_⟩; replace B0 := a_ (blk_kept (g := g0) (o := .cells #[.slice A0s l0s.length c0s, .int .i64 ns, .slice A2s l2s.length c2s] 25 (0, 0)) (blk_below B0.out hC_) hk (fun h_ => h_.elim (fun h1_ => types_no (blk_below B0.out hC_) (by decide) h1_.2.2.2) (fun h1_ => (Kd.R_typed (Kd.R_below HOa2.out hC_) _ h1_.symm).elim (fun _ h2_ => types_no (blk_below B0.out hC_) (by decide) ⟨_, List.mem_singleton.2 rfl, _, h2_⟩)))); replace BK5 := a_ (blk_kept (g := g1) (o := .cells #[.slice A0x l0x.length c0x, .int .i64 nx, .slice A2x l2x.length c2x] 25 (0, 0)) (blk_below BK5.out hC_) hk (fun h_ => h_.elim (fun h1_ => types_no (blk_below BK5.out hC_) (by decide) h1_.2.2.2) (fun h1_ => (Kd.R_typed (Kd.R_below HOa2.out hC_) _ h1_.symm).elim (fun _ h2_ => types_no (blk_below BK5.out hC_) (by decide) ⟨_, List.mem_singleton.2 rfl, _, h2_⟩)))); replace BK6 := a_ (blk_kept (g := g2) (o := .cells #[.slice A0a l0a.length c0a, .int .i64 na, .slice A2a l2a.length c2a] 25 (0, 0)) (blk_below BK6.out hC_) hk (fun h_ => h_.elim (fun h1_ => types_no (blk_below BK6.out hC_) (by decide) h1_.2.2.2) (fun h1_ => (Kd.R_typed (Kd.R_below HOa2.out hC_) _ h1_.symm).elim (fun _ h2_ => types_no (blk_below BK6.out hC_) (by decide) ⟨_, List.mem_singleton.2 rfl, _, h2_⟩)))); replace BK8 := a_ (blk_kept (g := g3) (o := .cells #[.slice A0b l0b.length c0b, .int .i64 nb, .slice A2b l2b.length c2b] 25 (0, 0)) (blk_below BK8.out hC_) hk (fun h_ => h_.elim (fun h1_ => types_no (blk_below BK8.out hC_) (by decide) h1_.2.2.2) (fun h1_ => (Kd.R_typed (Kd.R_below HOa2.out hC_) _ h1_.symm).elim (fun _ h2_ => types_no (blk_below BK8.out hC_) (by decide) ⟨_, List.mem_singleton.2 rfl, _, h2_⟩)))); replace B14 := a_ (blk_kept (g := g4) (o := .cells #[.slice A0c l0c.length c0c, .int .i64 nc, .slice A2c l2c.length c2c] 25 (0, 0)) (blk_below B14.out hC_) hk (fun h_ => h_.elim (fun h1_ => types_no (blk_below B14.out hC_) (by decide) h1_.2.2.2) (fun h1_ => (Kd.R_typed (Kd.R_below HOa2.out hC_) _ h1_.symm).elim (fun _ h2_ => types_no (blk_below B14.out hC_) (by decide) ⟨_, List.mem_singleton.2 rfl, _, h2_⟩)))); replace B15 := a_ (blk_kept (g := g5) (o := .cells #[.slice A0d l0d.length c0d, .int .i64 nd, .slice A2d l2d.length c2d] 25 (0, 0)) (blk_below B15.out hC_) hk (fun h_ => h_.elim (fun h1_ => types_no (blk_below B15.out hC_) (by decide) h1_.2.2.2) (fun h1_ => (Kd.R_typed (Kd.R_below HOa2.out hC_) _ h1_.symm).elim (fun _ h2_ => types_no (blk_below B15.out hC_) (by decide) ⟨_, List.mem_singleton.2 rfl, _, h2_⟩)))); replace HOc0 := a_ (Kd.S_mono (Kd.S_kept (Kd.S_bound (Kd.S_below HOc0.out hC_)) hk (fun k_ h1_ h2_ => h2_.elim (fun h3_ => Nat.not_le.2 h3_.1.2 h1_.2.1) (fun h3_ => Nat.not_le.2 (HLa2.out k_ h3_.symm) h1_.2.1))) (fun _ h_ => h_.1)); replace HOc2 := a_ (Kd.R_kept (Kd.R_tight rfl (Kd.R_below HOc2.out hC_)) hk (fun k_ h1_ h2_ => h2_.elim (fun h3_ => (Kd.R_typed (Kd.R_below HOc2.out hC_) k_ h1_.symm).elim (fun _ h4_ => types_no h4_ (by decide) h3_.2.2.2)) (fun h3_ => Nat.not_le.2 (HLa2.out k_ h3_.symm) (Kd.R_base (Kd.R_below HOc2.out hC_) k_ h1_.symm)))); replace HX := a_ hb; replace HB := a_ (Below.refl wc8.heap.size wc8); clear hb hk HOa0 HOa2; (try clear z0 f0 z1 f1 z2 f2); obtain ⟨z0, z1, z2, f0, f1, f2⟩ := bx3_ B0.out; (try clear z3 f3 z4 f4 z5 f5); obtain ⟨z3, z4, z5, f3, f4, f5⟩ := bx3_ BK5.out; (try clear z6 f6 z7 f7 z8 f8); obtain ⟨z6, z7, z8, f6, f7, f8⟩ := bx3_ BK6.out; (try clear z9 f9 z10 f10 z11 f11); obtain ⟨z9, z10, z11, f9, f10, f11⟩ := bx3_ BK8.out; (try clear z12 f12 z13 f13 z14 f14); obtain ⟨z12, z13, z14, f12, f13, f14⟩ := bx3_ B14.out; (try clear z15 f15 z16 f16 z17 f17); obtain ⟨z15, z16, z17, f15, f16, f17⟩ := bx3_ B15.out)
  | ((with_reducible refine gate_callee (f := 14) rfl ?_); refine goesL_ _ rfl rfl Tryz.func14 (by kernel_rfl) rfl #[.agg #[.slice A0c l0c.length c0c, .int .i64 nc, .slice A2c l2c.length c2c]] rfl hL_ ?_; (with_reducible refine (sleuthlaw0_SpoilSession.callsS k _ _ _ _ l0c nc l2c w1 _ (below_step HX.out hC_) (Kd.S_bound (Kd.S_lower (Kd.S_below HOc0.out hC_) HN.out)) (Kd.R_tight rfl (Kd.R_lower (Kd.R_below HOc2.out hC_) HN.out)) B11.out).mono ?_); rintro e wc9 ⟨rfl, hb, hk⟩; refine ⟨_, rfl, ?_⟩; replace B0 := a_ (blk_kept (g := g0) (o := .cells #[.slice A0s l0s.length c0s, .int .i64 ns, .slice A2s l2s.length c2s] 25 (0, 0)) (blk_below B0.out hC_) hk (fun h_ => h_.elim (fun h1_ => types_no (blk_below B0.out hC_) (by decide) h1_.2.2.2) (fun h1_ => (Kd.R_typed (Kd.R_below HOc2.out hC_) _ h1_.symm).elim (fun _ h2_ => types_no (blk_below B0.out hC_) (by decide) ⟨_, List.mem_singleton.2 rfl, _, h2_⟩)))); replace BK5 := a_ (blk_kept (g := g1) (o := .cells #[.slice A0x l0x.length c0x, .int .i64 nx, .slice A2x l2x.length c2x] 25 (0, 0)) (blk_below BK5.out hC_) hk (fun h_ => h_.elim (fun h1_ => types_no (blk_below BK5.out hC_) (by decide) h1_.2.2.2) (fun h1_ => (Kd.R_typed (Kd.R_below HOc2.out hC_) _ h1_.symm).elim (fun _ h2_ => types_no (blk_below BK5.out hC_) (by decide) ⟨_, List.mem_singleton.2 rfl, _, h2_⟩)))); replace BK6 := a_ (blk_kept (g := g2) (o := .cells #[.slice A0a l0a.length c0a, .int .i64 na, .slice A2a l2a.length c2a] 25 (0, 0)) (blk_below BK6.out hC_) hk (fun h_ => h_.elim (fun h1_ => types_no (blk_below BK6.out hC_) (by decide) h1_.2.2.2) (fun h1_ => (Kd.R_typed (Kd.R_below HOc2.out hC_) _ h1_.symm).elim (fun _ h2_ => types_no (blk_below BK6.out hC_) (by decide) ⟨_, List.mem_singleton.2 rfl, _, h2_⟩)))); replace BK8 := a_ (blk_kept (g := g3) (o := .cells #[.slice A0b l0b.length c0b, .int .i64 nb, .slice A2b l2b.length c2b] 25 (0, 0)) (blk_below BK8.out hC_) hk (fun h_ => h_.elim (fun h1_ => types_no (blk_below BK8.out hC_) (by decide) h1_.2.2.2) (fun h1_ => (Kd.R_typed (Kd.R_below HOc2.out hC_) _ h1_.symm).elim (fun _ h2_ => types_no (blk_below BK8.out hC_) (by decide) ⟨_, List.mem_singleton.2 rfl, _, h2_⟩)))); replace B14 := a_ (blk_kept (g := g4) (o := .cells #[.slice A0c l0c.length c0c, .int .i64 nc, .slice A2c l2c.length c2c] 25 (0, 0)) (blk_below B14.out hC_) hk (fun h_ => h_.elim (fun h1_ => types_no (blk_below B14.out hC_) (by decide) h1_.2.2.2) (fun h1_ => (Kd.R_typed (Kd.R_below HOc2.out hC_) _ h1_.symm).elim (fun _ h2_ => types_no (blk_below B14.out hC_) (by decide) ⟨_, List.mem_singleton.2 rfl, _, h2_⟩)))); replace B15 := a_ (blk_kept (g := g5) (o := .cells #[.slice A0d l0d.length c0d, .int .i64 nd, .slice A2d l2d.length c2d] 25 (0, 0)) (blk_below B15.out hC_) hk (fun h_ => h_.elim (fun h1_ => types_no (blk_below B15.out hC_) (by decide) h1_.2.2.2) (fun h1_ => (Kd.R_typed (Kd.R_below HOc2.out hC_) _ h1_.symm).elim (fun _ h2_ => types_no (blk_below B15.out hC_) (by decide) ⟨_, List.mem_singleton.2 rfl, _, h2_⟩)))); replace HX := a_ hb; replace HB := a_ (Below.refl wc9.heap.size wc9); clear hb hk HOc0 HOc2; (try clear z0 f0 z1 f1 z2 f2); obtain ⟨z0, z1, z2, f0, f1, f2⟩ := bx3_ B0.out; (try clear z3 f3 z4 f4 z5 f5); obtain ⟨z3, z4, z5, f3, f4, f5⟩ := bx3_ BK5.out; (try clear z6 f6 z7 f7 z8 f8); obtain ⟨z6, z7, z8, f6, f7, f8⟩ := bx3_ BK6.out; (try clear z9 f9 z10 f10 z11 f11); obtain ⟨z9, z10, z11, f9, f10, f11⟩ := bx3_ BK8.out; (try clear z12 f12 z13 f13 z14 f14); obtain ⟨z12, z13, z14, f12, f13, f14⟩ := bx3_ B14.out; (try clear z15 f15 z16 f16 z17 f17); obtain ⟨z15, z16, z17, f15, f16, f17⟩ := bx3_ B15.out)
  | ((with_reducible refine gate_callee (f := 12) rfl ?_); refine goesL_ _ rfl rfl Tryz.func12 (by kernel_rfl) rfl #[.agg #[.slice A0x l0x.length c0x, .int .i64 nx, .slice A2x l2x.length c2x], .agg #[.slice A0s l0s.length c0s, .int .i64 ns, .slice A2s l2s.length c2s]] rfl hL_ ?_; (with_reducible refine (sleuthlaw0_SameSession.calls k _ _ l0x nx _ _ l2x _ _ l0s ns _ _ l2s true _ ?s1 ?s2 ?s3 ?s4 ?s5 ?s6 ?s7 ?s8 B12.out).mono ?_); (case s1 => exact (Kd.C_below HRx0.out (below_step HX.out hC_))); (case s2 => exact HCx0.out); (case s3 => exact (Kd.C_below HRx2.out (below_step HX.out hC_))); (case s4 => exact HCx2.out); (case s5 => exact (Kd.C_below HRs0.out (below_step HX.out hC_))); (case s6 => exact HCs0.out); (case s7 => exact (Kd.C_below HRs2.out (below_step HX.out hC_))); (case s8 => exact HCs2.out); rintro e wc10 ⟨rfl, hb⟩; refine ⟨_, rfl, ?_⟩; have hs_ := below_step hC_ hb; replace B0 := a_ (blk_below B0.out hs_); replace BK5 := a_ (blk_below BK5.out hs_); replace BK6 := a_ (blk_below BK6.out hs_); replace BK8 := a_ (blk_below BK8.out hs_); replace B14 := a_ (blk_below B14.out hs_); replace B15 := a_ (blk_below B15.out hs_); replace HX := a_ (below_step HX.out hs_); replace HB := a_ (Below.refl wc10.heap.size wc10); clear hs_ hb; (try clear z0 f0 z1 f1 z2 f2); obtain ⟨z0, z1, z2, f0, f1, f2⟩ := bx3_ B0.out; (try clear z3 f3 z4 f4 z5 f5); obtain ⟨z3, z4, z5, f3, f4, f5⟩ := bx3_ BK5.out; (try clear z6 f6 z7 f7 z8 f8); obtain ⟨z6, z7, z8, f6, f7, f8⟩ := bx3_ BK6.out; (try clear z9 f9 z10 f10 z11 f11); obtain ⟨z9, z10, z11, f9, f10, f11⟩ := bx3_ BK8.out; (try clear z12 f12 z13 f13 z14 f14); obtain ⟨z12, z13, z14, f12, f13, f14⟩ := bx3_ B14.out; (try clear z15 f15 z16 f16 z17 f17); obtain ⟨z15, z16, z17, f15, f16, f17⟩ := bx3_ B15.out)
  | (go_at_call 15; (with_reducible refine (sleuthlaw22_awake.calls k r _ B13.out (GOK.below hG (below_step HX.out hC_))).mono ?_); rintro e wc11 ⟨rfl, hb⟩; have hs_ := below_step hC_ hb; replace B0 := a_ (blk_below B0.out hs_); replace BK5 := a_ (blk_below BK5.out hs_); replace BK6 := a_ (blk_below BK6.out hs_); replace BK8 := a_ (blk_below BK8.out hs_); replace B14 := a_ (blk_below B14.out hs_); replace B15 := a_ (blk_below B15.out hs_); replace HX := a_ (below_step HX.out hs_); replace HB := a_ (Below.refl wc11.heap.size wc11); clear hs_ hb; (try clear z0 f0 z1 f1 z2 f2); obtain ⟨z0, z1, z2, f0, f1, f2⟩ := bx3_ B0.out; (try clear z3 f3 z4 f4 z5 f5); obtain ⟨z3, z4, z5, f3, f4, f5⟩ := bx3_ BK5.out; (try clear z6 f6 z7 f7 z8 f8); obtain ⟨z6, z7, z8, f6, f7, f8⟩ := bx3_ BK6.out; (try clear z9 f9 z10 f10 z11 f11); obtain ⟨z9, z10, z11, f9, f10, f11⟩ := bx3_ BK8.out; (try clear z12 f12 z13 f13 z14 f14); obtain ⟨z12, z13, z14, f12, f13, f14⟩ := bx3_ B14.out; (try clear z15 f15 z16 f16 z17 f17); obtain ⟨z15, z16, z17, f15, f16, f17⟩ := bx3_ B15.out))
 go_ret
 exact ⟨hV_, below_step X0.out (below_step HX.out hC_)⟩

end Go.Proofs.YtbnljapgnfmmoaaGreatDoor.G
end
section
namespace Go.Proofs.YtbnljapgnfmmoaaGreatDoor.G
open Go.RowKit Go.Proofs.YtbnljapgnfmmoaaGreatDoorW.PrintWords Go.Proofs.YtbnljapgnfmmoaaGreatDoorW.PrintLast Go.Proofs.YtbnljapgnfmmoaaGreatDoorW.PrintMore
set_option linter.unusedVariables false
set_option linter.unusedSimpArgs false
theorem refPutA_ev (ns : List Nd) (hok : okN ns) (w : Int) (zs : List An) (hz : zs.length ≤ 9223372036854775806) (mk : Int) : Ev (fun k => sleuthref12_PutAnswer.f k ns w zs mk) (putF ns w zs mk) := by
  unfold sleuthref12_PutAnswer.f putF
  refine Ev.bind (refSMay_ev ns hok w zs hz) ?_
  by_cases c : sessS ns w zs = true
  · simp only [if_pos c, markMay_eq, Option.bind_some]
    by_cases d : markB mk = true
    · rw [if_pos d, d]
      obtain ⟨h1, h2, h3, h4, h5, h6⟩ := sess_spec c
      have hlen := mayT_len h1
      have hlt : ([] : List An).length + zs.length < 8796093022208 := by rw [List.length_nil]; omega
      have hlt2 : zs.length < 8796093022208 := by omega
      have hs := refStep_ev ns hok w zs
      rw [h6] at hs
      refine Ev.step (fun k => by rw [sleuthref12_PutAnswer.j0, Bool.not_true, if_neg Bool.false_ne_true]) (Ev.bind hs ?_)
      by_cases e : (askW w ns (lastM' ns zs)).1 = 0
      · simp only [if_pos e, Option.bind_some, if_pos hlt, List.nil_append, if_pos hlt2, if_pos]
        unfold sleuthref12_with.f
        exact Ev.bind (Ev.bind (refCopy_ev ns hok) (Ev.now _)) (Ev.now _)
      · simp only [if_neg e, if_pos]; exact Ev.now _
    · rw [if_neg d]
      rw [Bool.not_eq_true] at d
      rw [d]
      refine Ev.step (f := fun _ => some ([], 0, [], 2200)) (fun k => by rw [sleuthref12_PutAnswer.j0, Bool.not_false, if_pos rfl]) (Ev.now _)
  · simp only [if_neg c]
    refine Ev.step (f := fun _ => some ([], 0, [], 2200)) (fun k => by rw [sleuthref12_PutAnswer.j0, if_pos rfl]) (Ev.now _)
theorem refUndoA_ev (ns : List Nd) (hok : okN ns) (w : Int) (zs : List An) (hz : zs.length ≤ 9223372036854775806) : Ev (fun k => sleuthref12_Undo.f k ns w zs) (undoF ns w zs) := by
  unfold sleuthref12_Undo.f undoF
  refine Ev.bind (refSMay_ev ns hok w zs hz) ?_
  by_cases c : sessS ns w zs = true
  · simp only [if_pos c]
    obtain ⟨h1, h2, h3, h4, h5, h6⟩ := sess_spec c
    have hlen := mayT_len h1
    by_cases d : zs.length = 0
    · have d' : (zs.length : Int) = 0 := by omega
      simp only [if_pos d, if_pos d']; exact Ev.now _
    · have d' : ¬ (zs.length : Int) = 0 := by omega
      have hw : wrap64 ((zs.length : Int) - 1) = ((zs.length - 1 : Nat) : Int) := by rw [w64 (by omega) (by omega)]; omega
      have g0 : (0 : Int) ≤ ((zs.length - 1 : Nat) : Int) := by omega
      have g1 : ((zs.length - 1 : Nat) : Int) ≤ (zs.length : Int) := by omega
      have g2 : ([] : List An).length + (zs.take (zs.length - 1)).length < 8796093022208 := by rw [List.length_nil, List.length_take]; omega
      simp only [if_neg d, if_neg d', Option.bind_some, hw, if_pos g0, if_pos g1, Int.toNat_natCast, if_pos g2, List.nil_append]
      unfold sleuthref12_with.f
      exact Ev.bind (Ev.bind (refCopy_ev ns hok) (Ev.now _)) (Ev.now _)
  · simp only [if_neg c]; exact Ev.now _
theorem putF_fine {ns : List Nd} (hn : fineN ns) (w : Int) (zs : List An) (hz : zs.length ≤ 8796093021952) (mk : Int) : fineN (putF ns w zs mk).1 ∧ (putF ns w zs mk).2.2.1.length ≤ 9223372036854775806 := by
  unfold putF
  split
  · split
    · split
      · exact ⟨hn, by show (zs ++ [_]).length ≤ _; rw [List.length_append]; show zs.length + 1 ≤ _; omega⟩
      · exact ⟨fineN_nil, Nat.zero_le _⟩
    · exact ⟨fineN_nil, Nat.zero_le _⟩
  · exact ⟨fineN_nil, Nat.zero_le _⟩
theorem undoF_fine {ns : List Nd} (hn : fineN ns) (w : Int) (zs : List An) (hz : zs.length ≤ 8796093021952) : fineN (undoF ns w zs).1 ∧ (undoF ns w zs).2.2.1.length ≤ 9223372036854775806 := by
  unfold undoF
  split
  · split
    · exact ⟨fineN_nil, Nat.zero_le _⟩
    · exact ⟨hn, by show (zs.take _).length ≤ _; rw [List.length_take]; omega⟩
  · exact ⟨fineN_nil, Nat.zero_le _⟩
theorem answers_pure (l0 : List Nd) (a1 : Int) (l2 : List An) (a3 : Int) (h : fineN l0 ∧ (Lit.int .i64 a1).wf = true ∧ fineA l2) (h3 : (Lit.int .i64 a3).wf = true) : ∃ k, sleuthlaw22_Answers.f k l0 a1 l2 a3 = some true := by
  refine Ev.rounds (g := fun k => sleuthlaw22_Answers.f k l0 a1 l2 a3) ?_
  have hok := h.1.ok
  have hz := h.2.2.1
  have hz' : l2.length ≤ 9223372036854775806 := by omega
  have fp := putF_fine h.1 a1 l2 (by omega) a3
  have fu := undoF_fine h.1 a1 l2 (by omega)
  have sp := sameSession_ev _ fp.1.ok (putF l0 a1 l2 a3).2.1 _ fp.2
  have su := sameSession_ev _ fu.1.ok (undoF l0 a1 l2).2.1 _ fu.2
  unfold sleuthlaw22_Answers.f
  refine Ev.bind (copySession_ev l0 hok a1 l2 hz) (Ev.bind (put_ev l0 hok a1 l2 hz' a3) (Ev.bind (refPutA_ev l0 hok a1 l2 hz' a3) (Ev.bind (undo_ev l0 hok a1 l2 hz') (Ev.bind (refUndoA_ev l0 hok a1 l2 hz') (Ev.bind sp ?_)))))
  simp only [if_pos, sleuthlaw0_Num.f, Option.bind_some]
  refine Ev.bind su ?_
  simp only [if_pos]
  refine Ev.bind (spoilS_ev fp.1 fp.2) (Ev.bind (spoilS_ev fu.1 fu.2) (Ev.bind (sameSession_ev l0 hok a1 l2 hz') ?_))
  simp only [if_pos]
  exact ansAwake_ev
end Go.Proofs.YtbnljapgnfmmoaaGreatDoor.G
end
