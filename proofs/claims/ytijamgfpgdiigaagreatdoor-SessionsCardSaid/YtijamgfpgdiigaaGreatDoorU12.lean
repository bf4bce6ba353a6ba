/- Parts of this proof, one behind the other: G45, SessVals, G50, G51, SessWake. -/
import Derived.Test.YtijamgfpgdiigaaGreatDoorU2
import Derived.Test.YtijamgfpgdiigaaGreatDoorG0
import Derived.Test.YtijamgfpgdiigaaGreatDoorU5
import Derived.Test.YtijamgfpgdiigaaGreatDoorU7
import Derived.Test.YtijamgfpgdiigaaGreatDoorU11
import Derived.Test.YtijamgfpgdiigaaGreatDoorU8
section
namespace Go.Proofs.YtijamgfpgdiigaaGreatDoor.G
open Go.RowKit Go.Proofs.YtijamgfpgdiigaaGreatDoorW.PrintWords Go.Proofs.YtijamgfpgdiigaaGreatDoorW.PrintLast Go.Proofs.YtijamgfpgdiigaaGreatDoorW.PrintMore
set_option maxHeartbeats 8000000
set_option maxRecDepth 100000
attribute [local go_sem] max2_int min2_int max_two min_two max_three min_three max_four min_four   -- for this text's walks alone
set_option linter.unusedVariables false
set_option linter.unusedSimpArgs false

mutual
def sleuthref12_SessionMay.j0 : Nat → Bool → List (S57) → Int → List (S46) → Option (Bool)
 | 0, _, _, _, _ => none
 | k + 1, x22, x407000, x407001, x407002 => if x22 = true then (some false) else (if 0 ≤ (x407000.length : Int) then (if ((x407000.length : Int) : Int).toNat ≤ 35184372088832 then (sleuthref12_SessionMay.l0 k (List.replicate ((x407000.length : Int) : Int).toNat 0) 0 x407000 x407001 x407002) else (none)) else (none))
def sleuthref12_SessionMay.l0 : Nat → List Int → Int → List (S57) → Int → List (S46) → Option (Bool)
 | 0, _, _, _, _, _ => none
 | k + 1, x3, x4, x407000, x407001, x407002 => if x4 < (x407002.length : Int) then (if 0 ≤ x4 then ((sleuthref12_asks.f k x407000 x407001 x3).bind fun bt414 => (if bt414.1 = 0 then (if bt414.2 = ((rd_T46 x407002 x4).f0) then ((sleuthref12_markMay.f ((rd_T46 x407002 x4).f1)).bind fun t417 => (if t417 = true then (if 0 ≤ ((rd_T46 x407002 x4).f0) then (if ((rd_T46 x407002 x4).f0) < (x3.length : Int) then (sleuthref12_SessionMay.l0 k (x3.set (((rd_T46 x407002 x4).f0) : Int).toNat ((rd_T46 x407002 x4).f1)) (wrap64 (x4 + 1)) x407000 x407001 x407002) else (none)) else (none)) else (some false))) else (some false)) else (some false))) else (none)) else (some true)
end
def sleuthref12_SessionMay.f (k : Nat) (l0_0 : List (S57)) (a0_1 : Int) (l0_2 : List (S46)) : Option (Bool) := (sleuthref12_TrailMay.f k l0_0).bind fun t407 => (if t407 = true then ((sleuthref12_upTo.f a0_1 0 1).bind fun t408 => (if t408 = true then (sleuthref12_SessionMay.j0 k (decide ((l0_2.length : Int) > 512)) l0_0 a0_1 l0_2) else (sleuthref12_SessionMay.j0 k true l0_0 a0_1 l0_2))) else (sleuthref12_SessionMay.j0 k true l0_0 a0_1 l0_2))
theorem sleuthref12_SessionMay.calls (k : Nat) (A0_0 : Option Addr) (c0_0 : Nat) (l0_0 : List (S57)) (a0_1 : Int) (A0_2 : Option Addr) (c0_2 : Nat) (l0_2 : List (S46)) (r : Bool) (w : World) (hr0_0 : Kd.C k57 w A0_0 l0_0.length l0_0) (hc0_0 : l0_0.length ≤ c0_0) (hr0_2 : Kd.C k46 w A0_2 l0_2.length l0_2) (hc0_2 : l0_2.length ≤ c0_2) (h : sleuthref12_SessionMay.f k l0_0 a0_1 l0_2 = some r) :
 Calls Tryz.prog 10 #[.agg #[.slice A0_0 l0_0.length c0_0, .int .i64 a0_1, .slice A0_2 l0_2.length c0_2]] w fun e w' => e = .returned (.bool r) ∧ Below w.heap.size w w' := by
 have hu25 := Tryz.underlying25
 have hu46 := Tryz.underlying46
 have hu48 := Tryz.underlying48
 have HR0_0 := a_ hr0_0
 have HC0_0 := a_ hc0_0
 clear hr0_0 hc0_0
 have HR0_2 := a_ hr0_2
 have HC0_2 := a_ hc0_2
 clear hr0_2 hc0_2
 have HB := a_ (Below.refl w.heap.size w)
 have H := h; unfold sleuthref12_SessionMay.f at H
 clear h
 have HC2 := a_ H
 clear H
 go_enter Tryz.func10, Tryz.ntmps10
 go_upto_region 1 with (first | ((with_reducible refine gate_dst (N := 1) rfl ?_); (try (refine gate_guard (by rfl) ?_; dsimp only)); refine boxE_ 1 #[.slice A0_0 l0_0.length c0_0, .int .i64 a0_1, .slice A0_2 l0_2.length c0_2] 25 ?_; intro g2 hg w3 hbox hb; have B0 := a_ (hbox); have E2 := a_ ((gE_ hg : w.heap.size ≤ g2)); replace HB := a_ (below_step hB_ hb); clear hb hbox hg))
 (try simp only [Act.put, List.setIfInBounds_toArray, List.set_cons_zero, List.set_cons_succ])
 go_cut [22] (fun v0 wc => ∃ (kq : Nat) (x2 : Bool), v0 = .bool x2 ∧ Aside0 (sleuthref12_SessionMay.j0 kq x2 l0_0 a0_1 l0_2 = some r) ∧ Aside0 (kq ≤ k) ∧ Aside0 (wc.heap[g2]? = some (.cells #[(.slice A0_0 l0_0.length c0_0), .int .i64 a0_1, (.slice A0_2 l0_2.length c0_2)] 25 (0, 0))) ∧ Aside0 (Below w.heap.size w wc))
 case first =>
  have H := HC2.out
  clear HC2
  replace H := Option.bind_eq_some_iff.mp H
  obtain ⟨t2, A40, H⟩ := H
  try dsimp only at H
  have A4 := a_ A40
  clear A40
  by_cases c5 : t2 = true
  case neg =>
   replace c5 := Bool.eq_false_iff.mpr c5
   subst c5
   rw [if_neg (show ¬ (false = true) by decide)] at H
   have H' := a_ H
   clear H
   obtain ⟨z0, z1, z2, f2, f3, f4⟩ := bx3_ B0.out
   go_wp2_with (first | ((with_reducible refine gate_callee (f := 16) rfl ?_); refine goesL_ (some 9) rfl rfl Tryz.func16 (by kernel_rfl) rfl #[.slice A0_0 l0_0.length c0_0] rfl hL_ ?_; (with_reducible refine (sleuthref12_TrailMay.calls k _ _ l0_0 false _ ?s1 ?s2 A4.out).mono ?_); (case s1 => exact cB_ HR0_0.out); (case s2 => exact HC0_0.out); rintro e w5 ⟨rfl, hb⟩; refine ⟨_, rfl, ?_⟩; replace B0 := a_ (bB_ B0.out hb); replace HB := a_ (below_step hC_ hb); (try clear hb); (try clear hb2); (try clear hk); (try clear hi)))
   go_meet
   case rel => exact ⟨_, (true), hW_, H', ⟨by first | omega | exact Nat.le_refl _⟩, ⟨(hK_ B0.out)⟩, ⟨hC_⟩⟩
  subst c5
  rw [if_pos rfl] at H
  replace H := Option.bind_eq_some_iff.mp H
  obtain ⟨t3, A60, H⟩ := H
  try dsimp only at H
  have A6 := a_ A60
  clear A60
  by_cases c7 : t3 = true
  case pos =>
   subst c7
   rw [if_pos rfl] at H
   have H' := a_ H
   clear H
   obtain ⟨z3, z4, z5, f5, f6, f7⟩ := bx3_ B0.out
   go_wp2_with (first | ((with_reducible refine gate_callee (f := 16) rfl ?_); refine goesL_ _ rfl rfl Tryz.func16 (by kernel_rfl) rfl #[.slice A0_0 l0_0.length c0_0] rfl hL_ ?_; (with_reducible refine (sleuthref12_TrailMay.calls k _ _ l0_0 true _ ?s1 ?s2 A4.out).mono ?_); (case s1 => exact cB_ HR0_0.out); (case s2 => exact HC0_0.out); rintro e w9 ⟨rfl, hb⟩; refine ⟨_, rfl, ?_⟩; replace B0 := a_ (bB_ B0.out hb); replace HB := a_ (below_step hC_ hb); (try clear hb); (try clear hb2); (try clear hk); (try clear hi); obtain ⟨z6, z7, z8, f8, f9, f10⟩ := bx3_ B0.out) | (go_at_call 17; (with_reducible refine (sleuthref12_upTo.calls a0_1 0 1 true _ A6.out).mono ?_); rintro e w' ⟨rfl, ⟨nd, rfl⟩⟩))
   go_meet
   case rel => exact ⟨_, (decide ((l0_2.length : Int) > 512)), hW_, H', ⟨by first | omega | exact Nat.le_refl _⟩, ⟨(hK_ B0.out)⟩, ⟨hC_⟩⟩
  replace c7 := Bool.eq_false_iff.mpr c7
  subst c7
  rw [if_neg (show ¬ (false = true) by decide)] at H
  have H' := a_ H
  clear H
  obtain ⟨z9, z10, z11, f11, f12, f13⟩ := bx3_ B0.out
  go_wp2_with (first | ((with_reducible refine gate_callee (f := 16) rfl ?_); refine goesL_ _ rfl rfl Tryz.func16 (by kernel_rfl) rfl #[.slice A0_0 l0_0.length c0_0] rfl hL_ ?_; (with_reducible refine (sleuthref12_TrailMay.calls k _ _ l0_0 true _ ?s1 ?s2 A4.out).mono ?_); (case s1 => exact cB_ HR0_0.out); (case s2 => exact HC0_0.out); rintro e w6 ⟨rfl, hb⟩; refine ⟨_, rfl, ?_⟩; replace B0 := a_ (bB_ B0.out hb); replace HB := a_ (below_step hC_ hb); (try clear hb); (try clear hb2); (try clear hk); (try clear hi); obtain ⟨z12, z13, z14, f14, f15, f16⟩ := bx3_ B0.out) | (go_at_call 17; (with_reducible refine (sleuthref12_upTo.calls a0_1 0 1 false _ A6.out).mono ?_); rintro e w' ⟨rfl, ⟨nd, rfl⟩⟩))
  go_meet
  case rel => exact ⟨_, (true), hW_, H', ⟨by first | omega | exact Nat.le_refl _⟩, ⟨(hK_ B0.out)⟩, ⟨hC_⟩⟩
 case rest =>
  clear HC2
  try clear c1
  try clear p2
  try clear c5
  try clear c7
  try clear c10
  try clear z6
  try clear z7
  try clear z8
  try clear z9
  try clear z10
  try clear z11
  try clear z12
  try clear z13
  try clear z14
  try clear z0
  try clear z1
  try clear z2
  try clear z3
  try clear z4
  try clear z5
  try clear f8
  try clear f9
  try clear f10
  try clear f11
  try clear f12
  try clear f13
  try clear f14
  try clear f15
  try clear f16
  try clear f2
  try clear f3
  try clear f4
  try clear f5
  try clear f6
  try clear f7
  obtain ⟨kq, x2, rfl, HA, HJ1, B0, HB⟩ := hcut
  cases kq with
  | zero => exact absurd HA.out (by simp [sleuthref12_SessionMay.j0])
  | succ kj1 =>
   have H := HA.out
   clear HA
   simp only [sleuthref12_SessionMay.j0] at H
   by_cases c16 : x2 = true
   case pos =>
    subst c16
    rw [if_pos rfl] at H
    obtain rfl := Option.some.inj H
    go_wp2
    go_ret
    exact ⟨hV_, hC_⟩
   replace c16 := Bool.eq_false_iff.mpr c16
   subst c16
   rw [if_neg (show ¬ (false = true) by decide)] at H
   replace H := ifI_ H; obtain ⟨c17, H⟩ := H
   have c17b0 := eq_true c17
   have c17b1 : decide (0 ≤ (l0_0.length : Int)) = true := decide_eq_true c17
   clear c17
   replace H := ifI_ H; obtain ⟨c18, H⟩ := H
   have c18b0 := eq_true c18
   have c18b1 : decide (((l0_0.length : Int) : Int).toNat ≤ 35184372088832) = true := decide_eq_true c18
   clear c18
   obtain ⟨y1, i0⟩ : ∃ y_ : List Int, y_ = (List.replicate ((l0_0.length : Int) : Int).toNat 0) := ⟨_, rfl⟩
   replace H : (sleuthref12_SessionMay.l0 kj1 y1 0 l0_0 a0_1 l0_2) = some r := by first | (rw [i0]; with_reducible exact H) | (have H2_ := (Option.bind_some _ _).symm.trans H; rw [i0]; with_reducible exact H2_) | (have H2_ := (Option.bind_some _ _).symm.trans H; with_reducible exact H2_) | with_reducible exact H | (rw [i0]; exact H) | exact H
   have Y0 := a_ i0
   clear i0
   have H' := a_ H
   clear H
   obtain ⟨z15, z16, z17, f17, f18, f19⟩ := bx3_ B0.out
   go_wp2_with (first | ((with_reducible refine gate_dst (N := 26) rfl ?_); (try (refine gate_guard (by rfl) ?_; dsimp only)); refine Kd.R_make (Kd.int .i64) _ 3 rfl (N := 26) rfl 44 _ _ rfl (l0_0.length : Int) rfl rfl Tryz.underlying44 (.int .i64 0) 8 info3 rfl (by decide) (by omega) 0 (ok := fun _ => True) (okp := fun _ => True) rfl (fun _ hk => hk) trivial (of_decide_eq_true hA_) (Nat.le_trans (Nat.mul_le_mul_right _ (of_decide_eq_true hA_ : (l0_0.length : Int).toNat ≤ 35184372088832)) (by omega)) (Below.refl _ _) (Nat.le_refl _) ?_; intro v1 w7 ho21 hb hg_ hnew_; clear hg_ hnew_; (first | rw [← Y0.out] at ho21 | (simp only [Int.reduceToNat] at ho21; rw [← Y0.out] at ho21)); have P0 := a_ (Kd.R_lower ho21 (below_size hC_)); replace B0 := a_ (bB_ B0.out hb); replace HB := a_ (below_step hC_ hb); clear hb ho21))
   go_loopg [4] kj1 (fun kq v4 w' => ∃ (x1 : List Int) (x0 : Int), v4 = .int .i64 x0 ∧ Aside0 (sleuthref12_SessionMay.l0 kq x1 x0 l0_0 a0_1 l0_2 = some r) ∧ Aside0 (kq ≤ kj1) ∧ Aside0 (Kd.R (Kd.int .i64) 3 w' w.heap.size (fun _ => True) v1 x1) ∧ Aside0 (w'.heap[g2]? = some (.cells #[(.slice A0_0 l0_0.length c0_0), .int .i64 a0_1, (.slice A0_2 l0_2.length c0_2)] 25 (0, 0))) ∧ Aside0 (Below w.heap.size w w'))
   case atStart => exact ⟨(y1), (0), hW_, H', ⟨Nat.le_refl _⟩, ⟨hR_ P0.out⟩, ⟨(hK_ B0.out)⟩, ⟨hC_⟩⟩
   case round =>
    clear H'
    try clear c1
    try clear p2
    try clear c5
    try clear c7
    try clear c10
    try clear c16
    try clear c17
    try clear c17b0
    try clear c17b1
    try clear c18
    try clear c18b0
    try clear c18b1
    try clear z6
    try clear z7
    try clear z8
    try clear z9
    try clear z10
    try clear z11
    try clear z12
    try clear z13
    try clear z14
    try clear z0
    try clear z1
    try clear z2
    try clear z15
    try clear z16
    try clear z17
    try clear z3
    try clear z4
    try clear z5
    try clear f8
    try clear f9
    try clear f10
    try clear f11
    try clear f12
    try clear f13
    try clear f14
    try clear f15
    try clear f16
    try clear f2
    try clear f3
    try clear f4
    try clear f17
    try clear f18
    try clear f19
    try clear f5
    try clear f6
    try clear f7
    try clear p2
    obtain ⟨x1, x0, rfl, HA, HK2, O0, B0, HB⟩ := hrel
    cases gk with
    | zero => exact absurd HA.out (by simp [sleuthref12_SessionMay.l0])
    | succ k2 =>
     have H := HA.out
     clear HA
     simp only [sleuthref12_SessionMay.l0] at H
     by_cases c22 : x0 < (l0_2.length : Int)
     case neg =>
      rw [if_neg c22] at H
      have c22b0 : decide (x0 < (l0_2.length : Int)) = false := decide_eq_false c22
      clear c22
      obtain rfl := Option.some.inj H
      obtain ⟨z18, z19, z20, f20, f21, f22⟩ := bx3_ B0.out
      go_wp2
      go_ret
      exact ⟨hV_, hC_⟩
     rw [if_pos c22] at H
     have c22b0 : decide (x0 < (l0_2.length : Int)) = true := decide_eq_true c22
     clear c22
     replace H := ifI_ H; obtain ⟨c23, H⟩ := H
     have c23b0 : decide (0 ≤ x0) = true := decide_eq_true c23
     clear c23
     replace H := Option.bind_eq_some_iff.mp H
     obtain ⟨⟨t0, t1⟩, A240, H⟩ := H
     try dsimp only at H
     have A24 := a_ A240
     clear A240
     by_cases c25 : t0 = 0
     case neg =>
      rw [if_neg c25] at H
      have c25b0 : (t0 == 0) = false := beq_eq_false_iff_ne.mpr c25
      have c25b1 : (t0 != 0) = true := bne_iff_ne.mpr c25
      obtain rfl := Option.some.inj H
      obtain ⟨z21, z22, z23, f23, f24, f25⟩ := bx3_ B0.out
      have p412 : 0 ≤ (x0 : Int) := of_decide_eq_true hA_
      have q412 : x0 < (l0_2.length : Int) := of_decide_eq_true hA_
      obtain ⟨d0, e412, h0, h1⟩ := at_T46 HR0_2.out x0 p412 q412
      cases e412
      replace h0 := cl_ HB.out h0
      replace h1 := cl_ HB.out h1
      replace p412 := eq_true p412
      replace q412 := eq_true q412
      go_wp2_with (first | ((with_reducible refine gate_dst (N := 5) rfl ?_); (try (refine gate_guard (by rfl) ?_; dsimp only)); refine boxE_ 5 #[.int .i64 0, .int .i64 0] 46 ?_; intro g0 hg w8 hbox hb; replace O0 := a_ (Kd.R_below (hR_ O0.out) hb); have B1 := a_ (hbox); have E0 := a_ ((gE_ hg : w.heap.size ≤ g0)); replace HB := a_ (below_step hC_ hb); have N0 := a_ ((bL_ B0.out hg : g2 ≠ g0)); have N3 := a_ ((bG_ B0.out hg : g0 ≠ g2)); replace B0 := a_ (bB_ B0.out hb); clear hb hbox hg; have m0 := N3.out; have n0 := N0.out; obtain ⟨z24, z25, f26, f27⟩ := bx2_ B1.out; obtain ⟨z26, z27, z28, f28, f29, f30⟩ := bx3_ B0.out; obtain ⟨a1, o1, e1⟩ := Kd.R_slice O0.out; subst e1) | ((with_reducible refine gate_callee (f := 23) rfl ?_); refine goesL_ (some 44) rfl rfl Tryz.func23 (by kernel_rfl) rfl #[.slice A0_0 l0_0.length c0_0, .int .i64 a0_1, .slice a1 x1.length o1] rfl hL_ ?_; (with_reducible refine (sleuthref12_asks.calls k2 _ _ l0_0 a0_1 _ _ x1 t0 t1 _ ?s1 ?s2 ?s3 ?s4 A24.out).mono ?_); (case s1 => exact Kd.C_below HR0_0.out hC_); (case s2 => exact HC0_0.out); (case s3 => refine (Kd.R_reads' (e := 3) (base := w.heap.size) (ok := fun k_ => True) (n := x1.length) (c := o1) ?_).2.2; exact (by (with_reducible repeat (first | apply Kd.R_alloc | apply Kd.R_drewN | apply Kd.R_drew)); exact (Kd.R_mono (rF_ (rF_ (Kd.R_types O0.out B1.out (by decide)))) (fun _ h_ => h_.1)))); (case s4 => exact (Kd.R_reads' O0.out).2.1); rintro e w78 ⟨rfl, hb⟩; refine ⟨_, rfl, ?_⟩; replace O0 := a_ (Kd.R_below (by (with_reducible repeat (first | apply Kd.R_alloc | apply Kd.R_drewN | apply Kd.R_drew)); exact (Kd.R_mono (rF_ (rF_ (Kd.R_types O0.out B1.out (by decide)))) (fun _ h_ => h_.1))) hb); replace B0 := a_ (blk_below (g := g2) (o := .cells #[.slice A0_0 l0_0.length c0_0, .int .i64 a0_1, .slice (some d0) l0_2.length c0_2] 25 (0, 0)) (by (with_reducible repeat (first | refine blk_drewN ?_ _ | refine blk_drew ?_ | refine blk_alloc ?_ _)); exact (bF_ (bF_ (hK_ B0.out) N0.out) N0.out)) hb); replace B1 := a_ (blk_below (g := g0) (o := .cells #[.int .i64 ((rd_T46 l0_2 x0).f0), .int .i64 ((rd_T46 l0_2 x0).f1)] 46 (0, 0)) (by (with_reducible repeat (first | refine blk_drewN ?_ _ | refine blk_drew ?_ | refine blk_alloc ?_ _)); exact (bP_ (bP_ (hK_ B1.out)))) hb); replace HB := a_ (below_step hC_ hb); (try clear hb); (try clear hb2); (try clear hk); (try clear hi)) | ((with_reducible refine gate_dst (N := 6) rfl ?_); (try (refine gate_guard (by rfl) ?_; dsimp only)); refine boxE_ 6 #[.int .i64 0, .int .i64 0] 48 ?_; intro g1 hg w79 hbox hb; replace O0 := a_ (Kd.R_below (hR_ O0.out) hb); have B2 := a_ (hbox); have E1 := a_ ((gE_ hg : w.heap.size ≤ g1)); replace HB := a_ (below_step hC_ hb); have N1 := a_ ((bL_ B0.out hg : g2 ≠ g1)); have N4 := a_ ((bG_ B0.out hg : g1 ≠ g2)); replace B0 := a_ (bB_ B0.out hb); have N2 := a_ ((bL_ B1.out hg : g0 ≠ g1)); have N5 := a_ ((bG_ B1.out hg : g1 ≠ g0)); replace B1 := a_ (bB_ B1.out hb); clear hb hbox hg; have m1 := N4.out; have n1 := N1.out; have m2 := N5.out; have n2 := N2.out; obtain ⟨z29, z30, f31, f32⟩ := bx2_ B2.out))
      go_ret
      exact ⟨hV_, hC_⟩
     rw [if_pos c25] at H
     have c25b0 : (t0 == 0) = true := beq_iff_eq.mpr c25
     have c25b1 : (t0 != 0) = false := bne_eq_false_iff_eq.mpr c25
     clear c25
     by_cases c26 : t1 = ((rd_T46 l0_2 x0).f0)
     case neg =>
      rw [if_neg c26] at H
      have c26b0 : (t1 == ((rd_T46 l0_2 x0).f0)) = false := beq_eq_false_iff_ne.mpr c26
      have c26b1 : (t1 != ((rd_T46 l0_2 x0).f0)) = true := bne_iff_ne.mpr c26
      obtain rfl := Option.some.inj H
      obtain ⟨z31, z32, z33, f33, f34, f35⟩ := bx3_ B0.out
      have p412 : 0 ≤ (x0 : Int) := of_decide_eq_true hA_
      have q412 : x0 < (l0_2.length : Int) := of_decide_eq_true hA_
      obtain ⟨d0, e412, h0, h1⟩ := at_T46 HR0_2.out x0 p412 q412
      cases e412
      replace h0 := cl_ HB.out h0
      replace h1 := cl_ HB.out h1
      replace p412 := eq_true p412
      replace q412 := eq_true q412
      go_wp2_with (first | ((with_reducible refine gate_dst (N := 5) rfl ?_); (try (refine gate_guard (by rfl) ?_; dsimp only)); refine boxE_ 5 #[.int .i64 0, .int .i64 0] 46 ?_; intro g0 hg w61 hbox hb; replace O0 := a_ (Kd.R_below (hR_ O0.out) hb); have B1 := a_ (hbox); have E0 := a_ ((gE_ hg : w.heap.size ≤ g0)); replace HB := a_ (below_step hC_ hb); have N0 := a_ ((bL_ B0.out hg : g2 ≠ g0)); have N3 := a_ ((bG_ B0.out hg : g0 ≠ g2)); replace B0 := a_ (bB_ B0.out hb); clear hb hbox hg; have m3 := N3.out; have n3 := N0.out; obtain ⟨z34, z35, f36, f37⟩ := bx2_ B1.out; obtain ⟨z36, z37, z38, f38, f39, f40⟩ := bx3_ B0.out; obtain ⟨a2, o2, e2⟩ := Kd.R_slice O0.out; subst e2) | ((with_reducible refine gate_callee (f := 23) rfl ?_); refine goesL_ (some 44) rfl rfl Tryz.func23 (by kernel_rfl) rfl #[.slice A0_0 l0_0.length c0_0, .int .i64 a0_1, .slice a2 x1.length o2] rfl hL_ ?_; (with_reducible refine (sleuthref12_asks.calls k2 _ _ l0_0 a0_1 _ _ x1 t0 t1 _ ?s1 ?s2 ?s3 ?s4 A24.out).mono ?_); (case s1 => exact Kd.C_below HR0_0.out hC_); (case s2 => exact HC0_0.out); (case s3 => refine (Kd.R_reads' (e := 3) (base := w.heap.size) (ok := fun k_ => True) (n := x1.length) (c := o2) ?_).2.2; exact (by (with_reducible repeat (first | apply Kd.R_alloc | apply Kd.R_drewN | apply Kd.R_drew)); exact (Kd.R_mono (rF_ (rF_ (Kd.R_types O0.out B1.out (by decide)))) (fun _ h_ => h_.1)))); (case s4 => exact (Kd.R_reads' O0.out).2.1); rintro e w66 ⟨rfl, hb⟩; refine ⟨_, rfl, ?_⟩; replace O0 := a_ (Kd.R_below (by (with_reducible repeat (first | apply Kd.R_alloc | apply Kd.R_drewN | apply Kd.R_drew)); exact (Kd.R_mono (rF_ (rF_ (Kd.R_types O0.out B1.out (by decide)))) (fun _ h_ => h_.1))) hb); replace B0 := a_ (blk_below (g := g2) (o := .cells #[.slice A0_0 l0_0.length c0_0, .int .i64 a0_1, .slice (some d0) l0_2.length c0_2] 25 (0, 0)) (by (with_reducible repeat (first | refine blk_drewN ?_ _ | refine blk_drew ?_ | refine blk_alloc ?_ _)); exact (bF_ (bF_ (hK_ B0.out) N0.out) N0.out)) hb); replace B1 := a_ (blk_below (g := g0) (o := .cells #[.int .i64 ((rd_T46 l0_2 x0).f0), .int .i64 ((rd_T46 l0_2 x0).f1)] 46 (0, 0)) (by (with_reducible repeat (first | refine blk_drewN ?_ _ | refine blk_drew ?_ | refine blk_alloc ?_ _)); exact (bP_ (bP_ (hK_ B1.out)))) hb); replace HB := a_ (below_step hC_ hb); (try clear hb); (try clear hb2); (try clear hk); (try clear hi)) | ((with_reducible refine gate_dst (N := 6) rfl ?_); (try (refine gate_guard (by rfl) ?_; dsimp only)); refine boxE_ 6 #[.int .i64 0, .int .i64 0] 48 ?_; intro g1 hg w67 hbox hb; replace O0 := a_ (Kd.R_below (hR_ O0.out) hb); have B2 := a_ (hbox); have E1 := a_ ((gE_ hg : w.heap.size ≤ g1)); replace HB := a_ (below_step hC_ hb); have N1 := a_ ((bL_ B0.out hg : g2 ≠ g1)); have N4 := a_ ((bG_ B0.out hg : g1 ≠ g2)); replace B0 := a_ (bB_ B0.out hb); have N2 := a_ ((bL_ B1.out hg : g0 ≠ g1)); have N5 := a_ ((bG_ B1.out hg : g1 ≠ g0)); replace B1 := a_ (bB_ B1.out hb); clear hb hbox hg; have m4 := N4.out; have n4 := N1.out; have m5 := N5.out; have n5 := N2.out; obtain ⟨z39, z40, f41, f42⟩ := bx2_ B2.out; obtain ⟨z41, z42, f43, f44⟩ := bx2_ B1.out))
      go_ret
      exact ⟨hV_, hC_⟩
     rw [if_pos c26] at H
     have c26b0 : (t1 == ((rd_T46 l0_2 x0).f0)) = true := beq_iff_eq.mpr c26
     have c26b1 : (t1 != ((rd_T46 l0_2 x0).f0)) = false := bne_eq_false_iff_eq.mpr c26
     clear c26
     replace H := Option.bind_eq_some_iff.mp H
     obtain ⟨t4, A270, H⟩ := H
     try dsimp only at H
     have A27 := a_ A270
     clear A270
     by_cases c28 : t4 = true
     case neg =>
      replace c28 := Bool.eq_false_iff.mpr c28
      subst c28
      rw [if_neg (show ¬ (false = true) by decide)] at H
      obtain rfl := Option.some.inj H
      obtain ⟨z43, z44, z45, f45, f46, f47⟩ := bx3_ B0.out
      have p412 : 0 ≤ (x0 : Int) := of_decide_eq_true hA_
      have q412 : x0 < (l0_2.length : Int) := of_decide_eq_true hA_
      obtain ⟨d0, e412, h0, h1⟩ := at_T46 HR0_2.out x0 p412 q412
      cases e412
      replace h0 := cl_ HB.out h0
      replace h1 := cl_ HB.out h1
      replace p412 := eq_true p412
      replace q412 := eq_true q412
      go_wp2_with (first | ((with_reducible refine gate_dst (N := 5) rfl ?_); (try (refine gate_guard (by rfl) ?_; dsimp only)); refine boxE_ 5 #[.int .i64 0, .int .i64 0] 46 ?_; intro g0 hg w49 hbox hb; replace O0 := a_ (Kd.R_below (hR_ O0.out) hb); have B1 := a_ (hbox); have E0 := a_ ((gE_ hg : w.heap.size ≤ g0)); replace HB := a_ (below_step hC_ hb); have N0 := a_ ((bL_ B0.out hg : g2 ≠ g0)); have N3 := a_ ((bG_ B0.out hg : g0 ≠ g2)); replace B0 := a_ (bB_ B0.out hb); clear hb hbox hg; have m6 := N3.out; have n6 := N0.out; obtain ⟨z46, z47, f48, f49⟩ := bx2_ B1.out; obtain ⟨z48, z49, z50, f50, f51, f52⟩ := bx3_ B0.out; obtain ⟨a3, o3, e3⟩ := Kd.R_slice O0.out; subst e3) | ((with_reducible refine gate_callee (f := 23) rfl ?_); refine goesL_ _ rfl rfl Tryz.func23 (by kernel_rfl) rfl #[.slice A0_0 l0_0.length c0_0, .int .i64 a0_1, .slice a3 x1.length o3] rfl hL_ ?_; (with_reducible refine (sleuthref12_asks.calls k2 _ _ l0_0 a0_1 _ _ x1 t0 t1 _ ?s1 ?s2 ?s3 ?s4 A24.out).mono ?_); (case s1 => exact Kd.C_below HR0_0.out hC_); (case s2 => exact HC0_0.out); (case s3 => refine (Kd.R_reads' (e := 3) (base := w.heap.size) (ok := fun k_ => True) (n := x1.length) (c := o3) ?_).2.2; exact (by (with_reducible repeat (first | apply Kd.R_alloc | apply Kd.R_drewN | apply Kd.R_drew)); exact (Kd.R_mono (rF_ (rF_ (Kd.R_types O0.out B1.out (by decide)))) (fun _ h_ => h_.1)))); (case s4 => exact (Kd.R_reads' O0.out).2.1); rintro e w54 ⟨rfl, hb⟩; refine ⟨_, rfl, ?_⟩; replace O0 := a_ (Kd.R_below (by (with_reducible repeat (first | apply Kd.R_alloc | apply Kd.R_drewN | apply Kd.R_drew)); exact (Kd.R_mono (rF_ (rF_ (Kd.R_types O0.out B1.out (by decide)))) (fun _ h_ => h_.1))) hb); replace B0 := a_ (blk_below (g := g2) (o := .cells #[.slice A0_0 l0_0.length c0_0, .int .i64 a0_1, .slice (some d0) l0_2.length c0_2] 25 (0, 0)) (by (with_reducible repeat (first | refine blk_drewN ?_ _ | refine blk_drew ?_ | refine blk_alloc ?_ _)); exact (bF_ (bF_ (hK_ B0.out) N0.out) N0.out)) hb); replace B1 := a_ (blk_below (g := g0) (o := .cells #[.int .i64 ((rd_T46 l0_2 x0).f0), .int .i64 ((rd_T46 l0_2 x0).f1)] 46 (0, 0)) (by (with_reducible repeat (first | refine blk_drewN ?_ _ | refine blk_drew ?_ | refine blk_alloc ?_ _)); exact (bP_ (bP_ (hK_ B1.out)))) hb); replace HB := a_ (below_step hC_ hb); (try clear hb); (try clear hb2); (try clear hk); (try clear hi)) | ((with_reducible refine gate_dst (N := 6) rfl ?_); (try (refine gate_guard (by rfl) ?_; dsimp only)); refine boxE_ 6 #[.int .i64 0, .int .i64 0] 48 ?_; intro g1 hg w55 hbox hb; replace O0 := a_ (Kd.R_below (hR_ O0.out) hb); have B2 := a_ (hbox); have E1 := a_ ((gE_ hg : w.heap.size ≤ g1)); replace HB := a_ (below_step hC_ hb); have N1 := a_ ((bL_ B0.out hg : g2 ≠ g1)); have N4 := a_ ((bG_ B0.out hg : g1 ≠ g2)); replace B0 := a_ (bB_ B0.out hb); have N2 := a_ ((bL_ B1.out hg : g0 ≠ g1)); have N5 := a_ ((bG_ B1.out hg : g1 ≠ g0)); replace B1 := a_ (bB_ B1.out hb); clear hb hbox hg; have m7 := N4.out; have n7 := N1.out; have m8 := N5.out; have n8 := N2.out; obtain ⟨z51, z52, f53, f54⟩ := bx2_ B2.out; obtain ⟨z53, z54, f55, f56⟩ := bx2_ B1.out) | (go_at_call 24; (with_reducible refine (sleuthref12_markMay.calls ((rd_T46 l0_2 x0).f1) false _ A27.out).mono ?_); rintro e w' ⟨rfl, ⟨nd, rfl⟩⟩))
      go_ret
      exact ⟨hV_, hC_⟩
     subst c28
     rw [if_pos rfl] at H
     replace H := ifI_ H; obtain ⟨c29, H⟩ := H
     have c29b0 : decide (0 ≤ ((rd_T46 l0_2 x0).f0)) = true := decide_eq_true c29
     clear c29
     replace H := ifI_ H; obtain ⟨c30, H⟩ := H
     have c30b0 : decide (((rd_T46 l0_2 x0).f0) < (x1.length : Int)) = true := decide_eq_true c30
     clear c30
     obtain ⟨y0, i1⟩ : ∃ y_ : List Int, y_ = (x1.set (((rd_T46 l0_2 x0).f0) : Int).toNat ((rd_T46 l0_2 x0).f1)) := ⟨_, rfl⟩
     replace H : (sleuthref12_SessionMay.l0 k2 y0 (wrap64 (x0 + 1)) l0_0 a0_1 l0_2) = some r := by first | (rw [i1]; with_reducible exact H) | (have H2_ := (Option.bind_some _ _).symm.trans H; rw [i1]; with_reducible exact H2_) | (have H2_ := (Option.bind_some _ _).symm.trans H; with_reducible exact H2_) | with_reducible exact H | (rw [i1]; exact H) | exact H
     have Y1 := a_ i1
     clear i1
     have H' := a_ H
     clear H
     obtain ⟨z55, z56, z57, f57, f58, f59⟩ := bx3_ B0.out
     have p412 : 0 ≤ (x0 : Int) := of_decide_eq_true hA_
     have q412 : x0 < (l0_2.length : Int) := of_decide_eq_true hA_
     obtain ⟨d0, e412, h0, h1⟩ := at_T46 HR0_2.out x0 p412 q412
     cases e412
     replace h0 := cl_ HB.out h0
     replace h1 := cl_ HB.out h1
     replace p412 := eq_true p412
     replace q412 := eq_true q412
     go_wp2_with (first | ((with_reducible refine gate_dst (N := 5) rfl ?_); (try (refine gate_guard (by rfl) ?_; dsimp only)); refine boxE_ 5 #[.int .i64 0, .int .i64 0] 46 ?_; intro g0 hg w33 hbox hb; replace O0 := a_ (Kd.R_below (hR_ O0.out) hb); have B1 := a_ (hbox); have E0 := a_ ((gE_ hg : w.heap.size ≤ g0)); replace HB := a_ (below_step hC_ hb); have N0 := a_ ((bL_ B0.out hg : g2 ≠ g0)); have N3 := a_ ((bG_ B0.out hg : g0 ≠ g2)); replace B0 := a_ (bB_ B0.out hb); clear hb hbox hg; have m9 := N3.out; have n9 := N0.out; obtain ⟨z58, z59, f60, f61⟩ := bx2_ B1.out; obtain ⟨z60, z61, z62, f62, f63, f64⟩ := bx3_ B0.out; obtain ⟨a0, o0, e4⟩ := Kd.R_slice O0.out; subst e4) | ((with_reducible refine gate_callee (f := 23) rfl ?_); refine goesL_ _ rfl rfl Tryz.func23 (by kernel_rfl) rfl #[.slice A0_0 l0_0.length c0_0, .int .i64 a0_1, .slice a0 x1.length o0] rfl hL_ ?_; (with_reducible refine (sleuthref12_asks.calls k2 _ _ l0_0 a0_1 _ _ x1 t0 t1 _ ?s1 ?s2 ?s3 ?s4 A24.out).mono ?_); (case s1 => exact Kd.C_below HR0_0.out hC_); (case s2 => exact HC0_0.out); (case s3 => refine (Kd.R_reads' (e := 3) (base := w.heap.size) (ok := fun k_ => True) (n := x1.length) (c := o0) ?_).2.2; exact (by (with_reducible repeat (first | apply Kd.R_alloc | apply Kd.R_drewN | apply Kd.R_drew)); exact (Kd.R_mono (rF_ (rF_ (Kd.R_types O0.out B1.out (by decide)))) (fun _ h_ => h_.1)))); (case s4 => exact (Kd.R_reads' O0.out).2.1); rintro e w38 ⟨rfl, hb⟩; refine ⟨_, rfl, ?_⟩; replace O0 := a_ (Kd.R_below (by (with_reducible repeat (first | apply Kd.R_alloc | apply Kd.R_drewN | apply Kd.R_drew)); exact (Kd.R_mono (rF_ (rF_ (Kd.R_types O0.out B1.out (by decide)))) (fun _ h_ => h_.1))) hb); replace B0 := a_ (blk_below (g := g2) (o := .cells #[.slice A0_0 l0_0.length c0_0, .int .i64 a0_1, .slice (some d0) l0_2.length c0_2] 25 (0, 0)) (by (with_reducible repeat (first | refine blk_drewN ?_ _ | refine blk_drew ?_ | refine blk_alloc ?_ _)); exact (bF_ (bF_ (hK_ B0.out) N0.out) N0.out)) hb); replace B1 := a_ (blk_below (g := g0) (o := .cells #[.int .i64 ((rd_T46 l0_2 x0).f0), .int .i64 ((rd_T46 l0_2 x0).f1)] 46 (0, 0)) (by (with_reducible repeat (first | refine blk_drewN ?_ _ | refine blk_drew ?_ | refine blk_alloc ?_ _)); exact (bP_ (bP_ (hK_ B1.out)))) hb); replace HB := a_ (below_step hC_ hb); (try clear hb); (try clear hb2); (try clear hk); (try clear hi)) | ((with_reducible refine gate_dst (N := 6) rfl ?_); (try (refine gate_guard (by rfl) ?_; dsimp only)); refine boxE_ 6 #[.int .i64 0, .int .i64 0] 48 ?_; intro g1 hg w4 hbox hb; replace O0 := a_ (Kd.R_below (hR_ O0.out) hb); have B2 := a_ (hbox); have E1 := a_ ((gE_ hg : w.heap.size ≤ g1)); replace HB := a_ (below_step hC_ hb); have N1 := a_ ((bL_ B0.out hg : g2 ≠ g1)); have N4 := a_ ((bG_ B0.out hg : g1 ≠ g2)); replace B0 := a_ (bB_ B0.out hb); have N2 := a_ ((bL_ B1.out hg : g0 ≠ g1)); have N5 := a_ ((bG_ B1.out hg : g1 ≠ g0)); replace B1 := a_ (bB_ B1.out hb); clear hb hbox hg; have m10 := N4.out; have n10 := N1.out; have m11 := N5.out; have n11 := N2.out; obtain ⟨z63, z64, f65, f66⟩ := bx2_ B2.out) | ((with_reducible refine gate_store (t := 48) (p := 6) rfl ?_); refine store_event (t := 48) (p := 6) (v := ?vo_w43) (w1 := ((w4.setCell ⟨g1, 0, none⟩ (.int .i64 t0)).setCell ⟨g1, 1, none⟩ (.int .i64 t1))) ?hg ?ho ?hn ?hr ?_; (case ho => rfl); (case hg => rfl); (case hn => rfl); (case hr => first | (go_simp; done) | (go_simp; rfl)); intro w0 hw; replace O0 : Aside0 (Kd.R (Kd.int .i64) 3 w0 w.heap.size (fun _ => True) (.slice a0 x1.length o0) x1) := ⟨(by rw [hw]; exact (by (with_reducible repeat (first | apply Kd.R_alloc | apply Kd.R_drewN | apply Kd.R_drew)); exact Kd.R_mono (rF_ (rF_ (Kd.R_types O0.out B2.out (by decide)))) (fun _ hk => trivial)))⟩; replace B0 : Aside0 (w0.heap[g2]? = some (.cells #[.slice A0_0 l0_0.length c0_0, .int .i64 a0_1, .slice (some d0) l0_2.length c0_2] 25 (0, 0))) := ⟨(by rw [hw]; exact (bF_ (bF_ (hK_ B0.out) N1.out) N1.out))⟩; replace B1 : Aside0 (w0.heap[g0]? = some (.cells #[.int .i64 ((rd_T46 l0_2 x0).f0), .int .i64 ((rd_T46 l0_2 x0).f1)] 46 (0, 0))) := ⟨(by rw [hw]; exact (bF_ (bF_ (hK_ B1.out) N2.out) N2.out))⟩; replace B2 : Aside0 (w0.heap[g1]? = some (.cells #[.int .i64 t0, .int .i64 t1] 48 (0, 0))) := ⟨(by rw [hw]; exact (bP_ (bP_ (hK_ B2.out))))⟩; replace HB : Aside0 (Below w.heap.size w w0) := ⟨(by rw [hw]; exact hC_)⟩; clear hw; obtain ⟨z65, z66, f67, f68⟩ := bx2_ B2.out; obtain ⟨z67, z68, f69, f70⟩ := bx2_ B1.out) | (go_at_call 24; (with_reducible refine (sleuthref12_markMay.calls ((rd_T46 l0_2 x0).f1) true _ A27.out).mono ?_); rintro e w' ⟨rfl, ⟨nd, rfl⟩⟩; (try (rw [drewN_self w0]; generalize hq_ : World.drewN w0 _ = w0; replace O0 : Aside0 (Kd.R (Kd.int .i64) 3 w0 w.heap.size (fun _ => True) (.slice a0 x1.length o0) x1) := ⟨by rw [← hq_]; exact (hR_ O0.out)⟩; replace B0 : Aside0 (w0.heap[g2]? = some (.cells #[.slice A0_0 l0_0.length c0_0, .int .i64 a0_1, .slice (some d0) l0_2.length c0_2] 25 (0, 0))) := ⟨by rw [← hq_]; exact (hK_ B0.out)⟩; replace B1 : Aside0 (w0.heap[g0]? = some (.cells #[.int .i64 ((rd_T46 l0_2 x0).f0), .int .i64 ((rd_T46 l0_2 x0).f1)] 46 (0, 0))) := ⟨by rw [← hq_]; exact (hK_ B1.out)⟩; replace B2 : Aside0 (w0.heap[g1]? = some (.cells #[.int .i64 t0, .int .i64 t1] 48 (0, 0))) := ⟨by rw [← hq_]; exact (hK_ B2.out)⟩; replace HB : Aside0 (Below w.heap.size w w0) := ⟨by rw [← hq_]; exact hC_⟩; clear hq_; (try have hcu0_0 := bc0_ B0.out); (try have hfu0_0 := blk_frozen B0.out 0); (try have hcu0_1 := bc1_ B0.out); (try have hfu0_1 := blk_frozen B0.out 1); (try have hcu0_2 := bc2_ B0.out); (try have hfu0_2 := blk_frozen B0.out 2); (try have hcu1_0 := bc0_ B1.out); (try have hfu1_0 := blk_frozen B1.out 0); (try have hcu1_1 := bc1_ B1.out); (try have hfu1_1 := blk_frozen B1.out 1); (try have hcu2_0 := bc0_ B2.out); (try have hfu2_0 := blk_frozen B2.out 0); (try have hcu2_1 := bc1_ B2.out); (try have hfu2_1 := blk_frozen B2.out 1))); have p31 : 0 ≤ (((rd_T46 l0_2 x0).f0) : Int) := of_decide_eq_true hA_; have q31 : (((rd_T46 l0_2 x0).f0) : Int) < ((x1.length : Int) : Int) := of_decide_eq_true hA_; obtain ⟨j1, o4, e0, g3, gl31, cl31, HG31⟩ := Kd.R_form O0.out (by omega); (first | cases e0 | (injection e0 with ea_ en_ ec_; (first | subst ea_ | (injection ea_ with ea_; subst ea_)); subst ec_; clear en_)); have J0 := a_ g3; have K0 := a_ HG31; clear g3 gl31 HG31; obtain ⟨h2, hf31_0⟩ := Kd.R_celln 0 O0.out (((rd_T46 l0_2 x0).f0) : Int) p31 q31; replace p31 := eq_true p31; replace q31 := eq_true q31; obtain ⟨hy46_, hz46_⟩ := Kd.R_celln 0 O0.out (((rd_T46 l0_2 x0).f0) : Int) (of_decide_eq_true hA_) (of_decide_eq_true hA_); have HP46 := Kd.R_putg O0.out (((rd_T46 l0_2 x0).f0) : Int) ((rd_T46 l0_2 x0).f1)) | ((with_reducible refine gate_store (t := 3) (p := 66) rfl ?_); refine store_event (t := 3) (p := 66) (v := ?vo_w47) (w1 := (w0.setCell ⟨j1, (((rd_T46 l0_2 x0).f0) : Int).toNat, none⟩ (.int .i64 ((rd_T46 l0_2 x0).f1)))) ?hg ?ho ?hn ?hr ?_; (case ho => rfl); (case hg => rfl); (case hn => rfl); (case hr => first | (go_simp; done) | (go_simp; rfl)); intro w2 hw; have hg : w0.grownBy w2 (some j1) := (by rw [hw]; exact HP46.2); have hp_ : Kd.R (Kd.int .i64) 3 w2 w.heap.size (fun _ => True) (.slice (some ⟨j1, 0, none⟩) x1.length o0) y0 := (by rw [hw, Y1.out]; exact HP46.1); clear HP46; replace B0 := a_ (blk_grown (hK_ B0.out) hg (Kd.R_ne O0.out B0.out (by decide))); replace B1 := a_ (blk_grown (hK_ B1.out) hg (Kd.R_ne O0.out B1.out (by decide))); replace B2 := a_ (blk_grown (hK_ B2.out) hg (Kd.R_ne O0.out B2.out (by decide))); replace O0 := a_ (hp_); replace HB := a_ ((by rw [hw]; exact below_set (HB.out) J0.out : Below w.heap.size w w2)); clear hg hw hp_))
     go_roundg k2
     case measure => have := HJ1.out; have := HK2.out; omega
     case rel => exact ⟨(y0), (wrap64 (x0 + 1)), hW_, H', ⟨by have := HJ1.out; have := HK2.out; omega⟩, ⟨hR_ O0.out⟩, ⟨(hK_ B0.out)⟩, ⟨hC_⟩⟩
end Go.Proofs.YtijamgfpgdiigaaGreatDoor.G
end
section
namespace Go.Proofs.YtijamgfpgdiigaaGreatDoor.G
open Go.RowKit Go.Proofs.YtijamgfpgdiigaaGreatDoorW.PrintWords Go.Proofs.YtijamgfpgdiigaaGreatDoorW.PrintLast Go.Proofs.YtijamgfpgdiigaaGreatDoorW.PrintMore
set_option linter.unusedVariables false
set_option linter.unusedSimpArgs false
theorem marksS_set {ns : List Nd} {m : List Int} (h : marksS ns m = true) (i : Nat) (v : Int) (hv : markB v = true) : marksS ns (m.set i v) = true := by
  obtain ⟨hm, hl, hx⟩ := marksS_spec h
  have hb := markB_spec hv
  unfold marksS
  rw [hm, List.length_set, hl, decide_eq_true rfl, Bool.true_and, Bool.true_and, Bool.not_eq_true', List.any_eq_false]
  intro x hx'
  rcases List.mem_or_eq_of_mem_set hx' with h1 | rfl
  · rw [hx x h1]; exact Bool.false_ne_true
  · unfold oddB
    rw [decide_eq_false (by omega), decide_eq_false (by omega)]; exact Bool.false_ne_true
theorem marksS_zero {ns : List Nd} (h : mayT ns = true) : marksS ns (List.replicate ns.length 0) = true := by
  unfold marksS
  rw [h, List.length_replicate, decide_eq_true rfl, Bool.true_and, Bool.true_and, Bool.not_eq_true', List.any_eq_false]
  intro x hx
  rw [List.eq_of_mem_replicate hx]
  exact Bool.false_ne_true
/-- are these the answers of a search? -/
def goS (ns : List Nd) (w : Int) : List An → List Int → Bool
  | [], _ => true
  | a :: t, m => if (!((askW w ns m).1 == 0) || (!((askW w ns m).2 == a.f0))) = true then false else if markB a.f1 = true then goS ns w t (m.set a.f0.toNat a.f1) else false
theorem goS_step {ns : List Nd} {w : Int} {a : An} {t : List An} {m : List Int} (h : goS ns w (a :: t) m = true) : (askW w ns m).1 = 0 ∧ (askW w ns m).2 = a.f0 ∧ markB a.f1 = true ∧ goS ns w t (m.set a.f0.toNat a.f1) = true := by
  rw [goS] at h
  by_cases c : (!((askW w ns m).1 == 0) || (!((askW w ns m).2 == a.f0))) = true
  · rw [if_pos c] at h; cases h
  · rw [if_neg c] at h
    by_cases d : markB a.f1 = true
    · rw [if_pos d] at h
      rw [Bool.or_eq_true, Bool.not_eq_true', Bool.not_eq_true', beq_eq_false_iff_ne, beq_eq_false_iff_ne] at c
      exact ⟨Classical.not_not.1 fun e => c (.inl e), Classical.not_not.1 fun e => c (.inr e), d, h⟩
    · rw [if_neg d] at h; cases h
theorem may_l0 (ns : List Nd) (w : Int) (zs : List An) (hz : zs.length ≤ 9223372036854775806) : ∀ (n i : Nat) (m : List Int), i + n = zs.length → marksS ns m = true → Ev (fun k => session_May.l0 k ns w zs m (i : Int)) (goS ns w (zs.drop i) m) := by
  intro n
  induction n with
  | zero =>
    intro i m hi hm
    rw [List.drop_eq_nil_of_le (by omega)]
    refine Ev.step (f := fun _ => some true) (fun k => ?_) (Ev.now _)
    rw [session_May.l0, if_neg (by omega)]
  | succ n ih =>
    intro i m hi hm
    have hw : wrap64 ((i : Int) + 1) = ((i + 1 : Nat) : Int) := by rw [w64 (by omega) (by omega)]; omega
    have hlt : (i : Int) < (zs.length : Int) := by omega
    have hf := askW_facts hm w
    have ha := nextAsk_ev hm w
    have hml := (marksS_spec hm).2.1
    rw [drop_ra zs i (by omega), goS]
    obtain ⟨a, hae⟩ : ∃ a, ra zs (i : Int) = a := ⟨_, rfl⟩
    have hae' : rd_T46 zs (i : Int) = a := hae
    rw [hae]
    generalize askW w ns m = b at ha hf
    refine Ev.step (f := fun k => (next_Ask.f k w ns m).bind fun b => if (!(b.1 == 0) || (!(b.2 == a.f0))) = true then some false else (next_Mark.f a.f1).bind fun t => if t = true then (if 0 ≤ a.f0 ∧ a.f0 < (m.length : Int) then session_May.l0 k ns w zs (m.set a.f0.toNat a.f1) ((i + 1 : Nat) : Int) else none) else some false) (fun k => by rw [session_May.l0, if_pos hlt, hae', hw]) ?_
    refine Ev.bind ha ?_
    by_cases c : (!(b.1 == 0) || (!(b.2 == a.f0))) = true
    · simp only [if_pos c]; exact Ev.now _
    · simp only [if_neg c, mark_eq, Option.bind_some]
      rw [Bool.or_eq_true, Bool.not_eq_true', Bool.not_eq_true', beq_eq_false_iff_ne, beq_eq_false_iff_ne] at c
      have e1 : b.2 = a.f0 := Classical.not_not.1 fun e => c (.inr e)
      by_cases d : markB a.f1 = true
      · have g : 0 ≤ a.f0 ∧ a.f0 < (m.length : Int) := by rw [← e1]; exact ⟨hf.1, by omega⟩
        simp only [if_pos d, if_pos g]
        exact ih (i + 1) _ (by omega) (marksS_set hm _ _ d)
      · simp only [if_neg d]; exact Ev.now _
def sessS (ns : List Nd) (w : Int) (zs : List An) : Bool := if (mayT ns && wayB w) = true then goS ns w zs (List.replicate ns.length 0) else false
theorem fresh_ev (ns : List Nd) (w : Int) : Ev (fun k => session_fresh.f k ns w) (mayT ns && wayB w) := by
  unfold session_fresh.f
  refine Ev.bind (trailMay_ev ns) ?_
  cases mayT ns with
  | false => simp only [if_neg Bool.false_ne_true, Bool.false_and]; exact Ev.now _
  | true => simp only [if_pos, Bool.true_and, way_eq]; exact Ev.now _
theorem sessMay_ev (ns : List Nd) (w : Int) (zs : List An) (hz : zs.length ≤ 9223372036854775806) : Ev (fun k => session_May.f k ns w zs) (sessS ns w zs) := by
  unfold session_May.f sessS
  refine Ev.bind (fresh_ev ns w) ?_
  by_cases c : (mayT ns && wayB w) = true
  · simp only [if_pos c]
    rw [Bool.and_eq_true] at c
    have := may_l0 ns w zs hz zs.length 0 (List.replicate ns.length 0) (by omega) (marksS_zero c.1)
    rw [List.drop_zero] at this
    exact this
  · simp only [if_neg c]; exact Ev.now _
def newF (ns : List Nd) (w : Int) : List Nd × Int × List An × Int := if (mayT ns && wayB w) = true then (ns, w, [], 0) else ([], 0, [], 2100)
theorem new_ev (ns : List Nd) (hok : okN ns) (w : Int) : Ev (fun k => session_New.f k ns w) (newF ns w) := by
  unfold session_New.f newF
  refine Ev.bind (fresh_ev ns w) ?_
  by_cases c : (mayT ns && wayB w) = true
  · have hfit : sc_fit ns ([] : List An) = true := by
      unfold sc_fit
      rw [decide_eq_true (show ns.length ≤ 2513169434916 by have := hok.1; omega), Bool.true_and, decide_eq_true (show ([] : List An).length ≤ 8796093022208 from Nat.zero_le _), Bool.true_and]
      exact List.all_eq_true.2 fun x hx => decide_eq_true (by have := hok.2 x hx; omega)
    unfold session_Copy.f
    simp only [if_pos c, if_pos hfit, Option.bind_some]
    exact Ev.now _
  · simp only [if_neg c]; exact Ev.now _
/-- how many nodes have no mark -/
def zeros : List Int → Nat
  | [] => 0
  | x :: t => (if x = 0 then 1 else 0) + zeros t
theorem zeros_le : ∀ m : List Int, zeros m ≤ m.length
  | [] => Nat.le_refl _
  | x :: t => by
    have := zeros_le t
    rw [zeros, List.length_cons]
    split <;> omega
theorem zeros_set : ∀ (m : List Int) (i : Nat) (v : Int), v ≠ 0 → m.getD i 1 = 0 → zeros (m.set i v) + 1 = zeros m
  | [], i, v, _, h => by simp at h
  | x :: t, 0, v, hv, h => by
    have hx : x = 0 := by simpa using h
    show zeros (v :: t) + 1 = _
    rw [zeros, zeros, if_neg hv, if_pos hx]; omega
  | x :: t, i + 1, v, hv, h => by
    have := zeros_set t i v hv (by simpa using h)
    show zeros (x :: t.set i v) + 1 = _
    rw [zeros, zeros]; omega
theorem getD_rd (m : List Int) (i : Int) (h0 : 0 ≤ i) (h1 : i < (m.length : Int)) : m.getD i.toNat 1 = rd m i := by
  show _ = List.getD _ _ _
  rw [List.getD_eq_getElem?_getD, List.getD_eq_getElem?_getD, List.getElem?_eq_getElem (show i.toNat < m.length by omega)]; rfl
theorem goS_ask {ns : List Nd} {w : Int} {a : An} {t : List An} {m : List Int} (hm : marksS ns m = true) (h : goS ns w (a :: t) m = true) : 0 ≤ a.f0 ∧ a.f0 < (m.length : Int) ∧ rd m a.f0 = 0 ∧ markB a.f1 = true ∧ marksS ns (m.set a.f0.toNat a.f1) = true ∧ goS ns w t (m.set a.f0.toNat a.f1) = true := by
  obtain ⟨h1, h2, h3, h4⟩ := goS_step h
  have hf := askW_facts hm w
  have hl := (marksS_spec hm).2.1
  rw [h2] at hf
  exact ⟨hf.1, by omega, hf.2.2 h1, h3, marksS_set hm _ _ h3, h4⟩
theorem goS_len {ns : List Nd} {w : Int} : ∀ (zs : List An) (m : List Int), marksS ns m = true → goS ns w zs m = true → zs.length ≤ zeros m
  | [], m, _, _ => Nat.zero_le _
  | a :: t, m, hm, h => by
    obtain ⟨h0, h1, h2, h3, h4, h5⟩ := goS_ask hm h
    have ih := goS_len t _ h4 h5
    have hb := markB_spec h3
    have := zeros_set m a.f0.toNat a.f1 (by omega) (by rw [getD_rd m a.f0 h0 h1]; exact h2)
    rw [List.length_cons]; omega
theorem goS_max {ns : List Nd} {w : Int} {zs : List An} (hm : mayT ns = true) (h : goS ns w zs (List.replicate ns.length 0) = true) : zs.length ≤ ns.length := by
  have h1 := goS_len zs _ (marksS_zero hm) h
  have h2 := zeros_le (List.replicate ns.length 0)
  rw [List.length_replicate] at h2
  omega
theorem refSMay_l0 (ns : List Nd) (w : Int) (hw0 : wayB w = true) (zs : List An) (hz : zs.length ≤ 9223372036854775806) : ∀ (n i : Nat) (m : List Int), i + n = zs.length → marksS ns m = true → Ev (fun k => sleuthref12_SessionMay.l0 k m (i : Int) ns w zs) (goS ns w (zs.drop i) m) := by
  intro n
  induction n with
  | zero =>
    intro i m hi hm
    rw [List.drop_eq_nil_of_le (by omega)]
    refine Ev.step (f := fun _ => some true) (fun k => ?_) (Ev.now _)
    rw [sleuthref12_SessionMay.l0, if_neg (by omega)]
  | succ n ih =>
    intro i m hi hm
    have hw : wrap64 ((i : Int) + 1) = ((i + 1 : Nat) : Int) := by rw [w64 (by omega) (by omega)]; omega
    have hlt : (i : Int) < (zs.length : Int) := by omega
    have hi0 : (0 : Int) ≤ (i : Int) := by omega
    have hf := askW_facts hm w
    have ha := asksR_ev hm w hw0
    have hml := (marksS_spec hm).2.1
    rw [drop_ra zs i (by omega), goS]
    obtain ⟨a, hae⟩ : ∃ a, ra zs (i : Int) = a := ⟨_, rfl⟩
    have hae' : rd_T46 zs (i : Int) = a := hae
    rw [hae]
    generalize askW w ns m = b at ha hf
    refine Ev.step (f := fun k => (sleuthref12_asks.f k ns w m).bind fun bt => (if bt.1 = 0 then (if bt.2 = a.f0 then ((sleuthref12_markMay.f a.f1).bind fun t => (if t = true then (if 0 ≤ a.f0 then (if a.f0 < (m.length : Int) then (sleuthref12_SessionMay.l0 k (m.set a.f0.toNat a.f1) ((i + 1 : Nat) : Int) ns w zs) else (none)) else (none)) else (some false))) else (some false)) else (some false))) (fun k => by rw [sleuthref12_SessionMay.l0, if_pos hlt, if_pos hi0, hae', hw]) ?_
    refine Ev.bind ha ?_
    by_cases c1 : b.1 = 0
    · by_cases c2 : b.2 = a.f0
      · have c : ¬ (!(b.1 == 0) || (!(b.2 == a.f0))) = true := by rw [c1, c2]; simp
        simp only [if_pos c1, if_pos c2, if_neg c, markMay_eq, Option.bind_some]
        by_cases d : markB a.f1 = true
        · have g0 : 0 ≤ a.f0 := by rw [← c2]; exact hf.1
          have g1 : a.f0 < (m.length : Int) := by rw [← c2]; omega
          simp only [if_pos d, if_pos g0, if_pos g1]
          exact ih (i + 1) _ (by omega) (marksS_set hm _ _ d)
        · simp only [if_neg d]; exact Ev.now _
      · have c : (!(b.1 == 0) || (!(b.2 == a.f0))) = true := by rw [Bool.or_eq_true]; exact .inr (by simpa using c2)
        simp only [if_pos c1, if_neg c2, if_pos c]; exact Ev.now _
    · have c : (!(b.1 == 0) || (!(b.2 == a.f0))) = true := by rw [Bool.or_eq_true]; exact .inl (by simpa using c1)
      simp only [if_neg c1, if_pos c]; exact Ev.now _
theorem refSMay_ev (ns : List Nd) (hok : okN ns) (w : Int) (zs : List An) (hz : zs.length ≤ 9223372036854775806) : Ev (fun k => sleuthref12_SessionMay.f k ns w zs) (sessS ns w zs) := by
  unfold sleuthref12_SessionMay.f sessS
  refine Ev.bind (refTrail_ev ns hok) ?_
  cases hm : mayT ns with
  | false =>
    simp only [if_neg Bool.false_ne_true, Bool.false_and]
    refine Ev.step (f := fun _ => some false) (fun k => ?_) (Ev.now _)
    rw [sleuthref12_SessionMay.j0, if_pos rfl]
  | true =>
    have hlen := mayT_len hm
    simp only [if_pos, Bool.true_and, wayR_eq, Option.bind_some]
    by_cases d : wayB w = true
    · simp only [if_pos d]
      by_cases c : zs.length ≤ 512
      · rw [decide_eq_false (show ¬ (zs.length : Int) > 512 by omega)]
        have h := refSMay_l0 ns w d zs hz zs.length 0 (List.replicate ns.length 0) (by omega) (marksS_zero hm)
        rw [List.drop_zero] at h
        refine Ev.step (fun k => ?_) h
        rw [sleuthref12_SessionMay.j0, if_neg Bool.false_ne_true, if_pos (by omega), Int.toNat_natCast, if_pos (by omega)]; rfl
      · rw [decide_eq_true (show (zs.length : Int) > 512 by omega)]
        have e : goS ns w zs (List.replicate ns.length 0) = false := by
          rw [← Bool.not_eq_true]
          intro h
          have := goS_max hm h
          omega
        rw [e]
        refine Ev.step (f := fun _ => some false) (fun k => ?_) (Ev.now _)
        rw [sleuthref12_SessionMay.j0, if_pos rfl]
    · simp only [if_neg d]
      refine Ev.step (f := fun _ => some false) (fun k => ?_) (Ev.now _)
      rw [sleuthref12_SessionMay.j0, if_pos rfl]
end Go.Proofs.YtijamgfpgdiigaaGreatDoor.G
end
section
namespace Go.Proofs.YtijamgfpgdiigaaGreatDoor.G
open Go.RowKit Go.Proofs.YtijamgfpgdiigaaGreatDoorW.PrintWords Go.Proofs.YtijamgfpgdiigaaGreatDoorW.PrintLast Go.Proofs.YtijamgfpgdiigaaGreatDoorW.PrintMore
set_option maxHeartbeats 8000000
set_option maxRecDepth 100000
attribute [local go_sem] max2_int min2_int max_two min_two max_three min_three max_four min_four   -- for this text's walks alone
set_option linter.unusedVariables false
set_option linter.unusedSimpArgs false

def sleuthlaw21_some.f  : Option ((List (S57))) := some (([(⟨0, (-1), ([] : List ByteArray), (⟨#[57]⟩ : ByteArray)⟩ : S57), (⟨1, 0, (([(⟨#[64, 55, 40, 95, 32, 52, 41]⟩ : ByteArray), (⟨#[53]⟩ : ByteArray)] : List ByteArray)), (⟨#[57]⟩ : ByteArray)⟩ : S57), (⟨2, 0, ([] : List ByteArray), (⟨#[33]⟩ : ByteArray)⟩ : S57), (⟨1, 1, (([(⟨#[49]⟩ : ByteArray), (⟨#[95]⟩ : ByteArray)] : List ByteArray)), (⟨#[95]⟩ : ByteArray)⟩ : S57), (⟨1, 2, (([(⟨#[49]⟩ : ByteArray), (⟨#[95]⟩ : ByteArray)] : List ByteArray)), (⟨#[95]⟩ : ByteArray)⟩ : S57)] : List (S57)))
theorem sleuthlaw21_some.calls  (r : List (S57)) (w : World) (h : sleuthlaw21_some.f  = some r) :
 Calls Tryz.prog 27 #[] w fun e w' => ∃ v0_ : Value, e = .returned (v0_) ∧ Kd.N k57 57 w' w.heap.size (fun k_ => (w.heap.size ≤ k_)) v0_ r ∧ Below w.heap.size w w' := by
 have hu57 := Tryz.underlying57
 have HB := a_ (Below.refl w.heap.size w)
 have H := h; unfold sleuthlaw21_some.f at H
 clear h
 obtain ⟨y0, i0⟩ : ∃ y_ : List ByteArray, y_ = (([(⟨#[64, 55, 40, 95, 32, 52, 41]⟩ : ByteArray), (⟨#[53]⟩ : ByteArray)] : List ByteArray)) := ⟨_, rfl⟩
 replace H : (some (([(⟨0, (-1), ([] : List ByteArray), (⟨#[57]⟩ : ByteArray)⟩ : S57), (⟨1, 0, y0, (⟨#[57]⟩ : ByteArray)⟩ : S57), (⟨2, 0, ([] : List ByteArray), (⟨#[33]⟩ : ByteArray)⟩ : S57), (⟨1, 1, (([(⟨#[49]⟩ : ByteArray), (⟨#[95]⟩ : ByteArray)] : List ByteArray)), (⟨#[95]⟩ : ByteArray)⟩ : S57), (⟨1, 2, (([(⟨#[49]⟩ : ByteArray), (⟨#[95]⟩ : ByteArray)] : List ByteArray)), (⟨#[95]⟩ : ByteArray)⟩ : S57)] : List (S57)))) = some r := by first | (rw [i0]; with_reducible exact H) | (have H2_ := (Option.bind_some _ _).symm.trans H; rw [i0]; with_reducible exact H2_) | (have H2_ := (Option.bind_some _ _).symm.trans H; with_reducible exact H2_) | with_reducible exact H | (rw [i0]; exact H) | exact H
 have Y0 := a_ i0
 clear i0
 obtain ⟨y1, i1⟩ : ∃ y_ : List ByteArray, y_ = (([(⟨#[49]⟩ : ByteArray), (⟨#[95]⟩ : ByteArray)] : List ByteArray)) := ⟨_, rfl⟩
 replace H : (some (([(⟨0, (-1), ([] : List ByteArray), (⟨#[57]⟩ : ByteArray)⟩ : S57), (⟨1, 0, y0, (⟨#[57]⟩ : ByteArray)⟩ : S57), (⟨2, 0, ([] : List ByteArray), (⟨#[33]⟩ : ByteArray)⟩ : S57), (⟨1, 1, y1, (⟨#[95]⟩ : ByteArray)⟩ : S57), (⟨1, 2, (([(⟨#[49]⟩ : ByteArray), (⟨#[95]⟩ : ByteArray)] : List ByteArray)), (⟨#[95]⟩ : ByteArray)⟩ : S57)] : List (S57)))) = some r := by first | (rw [i1]; with_reducible exact H) | (have H2_ := (Option.bind_some _ _).symm.trans H; rw [i1]; with_reducible exact H2_) | (have H2_ := (Option.bind_some _ _).symm.trans H; with_reducible exact H2_) | with_reducible exact H | (rw [i1]; exact H) | exact H
 have Y1 := a_ i1
 clear i1
 obtain ⟨y2, i2⟩ : ∃ y_ : List ByteArray, y_ = (([(⟨#[49]⟩ : ByteArray), (⟨#[95]⟩ : ByteArray)] : List ByteArray)) := ⟨_, rfl⟩
 replace H : (some (([(⟨0, (-1), ([] : List ByteArray), (⟨#[57]⟩ : ByteArray)⟩ : S57), (⟨1, 0, y0, (⟨#[57]⟩ : ByteArray)⟩ : S57), (⟨2, 0, ([] : List ByteArray), (⟨#[33]⟩ : ByteArray)⟩ : S57), (⟨1, 1, y1, (⟨#[95]⟩ : ByteArray)⟩ : S57), (⟨1, 2, y2, (⟨#[95]⟩ : ByteArray)⟩ : S57)] : List (S57)))) = some r := by first | (rw [i2]; with_reducible exact H) | (have H2_ := (Option.bind_some _ _).symm.trans H; rw [i2]; with_reducible exact H2_) | (have H2_ := (Option.bind_some _ _).symm.trans H; with_reducible exact H2_) | with_reducible exact H | (rw [i2]; exact H) | exact H
 have Y2 := a_ i2
 clear i2
 obtain ⟨y3, i3⟩ : ∃ y_ : List (S57), y_ = (([(⟨0, (-1), ([] : List ByteArray), (⟨#[57]⟩ : ByteArray)⟩ : S57), (⟨1, 0, y0, (⟨#[57]⟩ : ByteArray)⟩ : S57), (⟨2, 0, ([] : List ByteArray), (⟨#[33]⟩ : ByteArray)⟩ : S57), (⟨1, 1, y1, (⟨#[95]⟩ : ByteArray)⟩ : S57), (⟨1, 2, y2, (⟨#[95]⟩ : ByteArray)⟩ : S57)] : List (S57))) := ⟨_, rfl⟩
 replace H : (some y3) = some r := by first | (rw [i3]; with_reducible exact H) | (have H2_ := (Option.bind_some _ _).symm.trans H; rw [i3]; with_reducible exact H2_) | (have H2_ := (Option.bind_some _ _).symm.trans H; with_reducible exact H2_) | with_reducible exact H | (rw [i3]; exact H) | exact H
 have Y3 := a_ i3
 clear i3
 obtain rfl := Option.some.inj H
 go_enter Tryz.func27, Tryz.ntmps27
 go_wp2_with (first | ((with_reducible refine gate_dst (N := 2) rfl ?_); refine Kd.R_lit Kd.string _ 9 ?hg (N := 2) ?hd (xs := ([(⟨#[64, 55, 40, 95, 32, 52, 41]⟩ : ByteArray), (⟨#[53]⟩ : ByteArray)] : List ByteArray)) (inner := [.string (⟨#[64, 55, 40, 95, 32, 52, 41]⟩ : ByteArray), .string (⟨#[53]⟩ : ByteArray)]) (ok := fun _ => True) (okp := fun _ => True) ?hr ?hp (fun _ hk => hk) trivial (Below.refl _ _) (Nat.le_refl _) (by simp) ?_; (case hd => rfl); (case hg => rfl); (case hr => first | (go_simp; done) | (go_simp; rfl)); (case hp => exact (Reps.one (show Kd.M Kd.string _ _ _ (⟨#[64, 55, 40, 95, 32, 52, 41]⟩ : ByteArray) [.string (⟨#[64, 55, 40, 95, 32, 52, 41]⟩ : ByteArray)] from rfl) (Reps.one (show Kd.M Kd.string _ _ _ (⟨#[53]⟩ : ByteArray) [.string (⟨#[53]⟩ : ByteArray)] from rfl) (Reps.none _ _)))); intro v0 w1 ho2 hb hg_ hnew_; clear hg_ hnew_; (first | rw [← Y0.out] at ho2 | (simp only [Int.reduceToNat] at ho2; rw [← Y0.out] at ho2)); have P0 := a_ (Kd.R_lower (Kd.R_newM (M := fun k_ => (w.heap.size ≤ k_)) ho2 hS_ (fun k_ h_ => h_)) hS_); replace HB := a_ (below_step hB_ hb); clear hb ho2; obtain ⟨a0, o0, e0⟩ := Kd.R_slice P0.out; subst e0) | ((with_reducible refine gate_dst (N := 5) rfl ?_); refine Kd.R_lit Kd.string _ 9 ?hg (N := 5) ?hd (xs := ([(⟨#[49]⟩ : ByteArray), (⟨#[95]⟩ : ByteArray)] : List ByteArray)) (inner := [.string (⟨#[49]⟩ : ByteArray), .string (⟨#[95]⟩ : ByteArray)]) (ok := fun _ => True) (okp := fun _ => True) ?hr ?hp (fun _ hk => hk) trivial (Below.refl _ _) (Nat.le_refl _) (by simp) ?_; (case hd => rfl); (case hg => rfl); (case hr => first | (go_simp; done) | (go_simp; rfl)); (case hp => exact (Reps.one (show Kd.M Kd.string _ _ _ (⟨#[49]⟩ : ByteArray) [.string (⟨#[49]⟩ : ByteArray)] from rfl) (Reps.one (show Kd.M Kd.string _ _ _ (⟨#[95]⟩ : ByteArray) [.string (⟨#[95]⟩ : ByteArray)] from rfl) (Reps.none _ _)))); intro v1 w4 ho5 hb hg_ hnew_; clear hg_ hnew_; (first | rw [← Y1.out] at ho5 | (simp only [Int.reduceToNat] at ho5; rw [← Y1.out] at ho5)); have P1 := a_ (Kd.R_lower (Kd.R_new' (Kd.R_newM (M := fun k_ => (w.heap.size ≤ k_)) ho5 hS_ (fun k_ h_ => h_)) (Kd.R_lt (hR_ P0.out))) hS_); replace P0 := a_ (Kd.R_elder' (hR_ P0.out) (Kd.R_base ho5) hb); replace HB := a_ (below_step hB_ hb); clear hb ho5; obtain ⟨a1, o1, e1⟩ := Kd.R_slice P1.out; subst e1) | ((with_reducible refine gate_dst (N := 7) rfl ?_); refine Kd.R_lit Kd.string _ 9 ?hg (N := 7) ?hd (xs := ([(⟨#[49]⟩ : ByteArray), (⟨#[95]⟩ : ByteArray)] : List ByteArray)) (inner := [.string (⟨#[49]⟩ : ByteArray), .string (⟨#[95]⟩ : ByteArray)]) (ok := fun _ => True) (okp := fun _ => True) ?hr ?hp (fun _ hk => hk) trivial (Below.refl _ _) (Nat.le_refl _) (by simp) ?_; (case hd => rfl); (case hg => rfl); (case hr => first | (go_simp; done) | (go_simp; rfl)); (case hp => exact (Reps.one (show Kd.M Kd.string _ _ _ (⟨#[49]⟩ : ByteArray) [.string (⟨#[49]⟩ : ByteArray)] from rfl) (Reps.one (show Kd.M Kd.string _ _ _ (⟨#[95]⟩ : ByteArray) [.string (⟨#[95]⟩ : ByteArray)] from rfl) (Reps.none _ _)))); intro v2 w7 ho8 hb hg_ hnew_; clear hg_ hnew_; (first | rw [← Y2.out] at ho8 | (simp only [Int.reduceToNat] at ho8; rw [← Y2.out] at ho8)); have P2 := a_ (Kd.R_lower (Kd.R_new' (Kd.R_new' (Kd.R_newM (M := fun k_ => (w.heap.size ≤ k_)) ho8 hS_ (fun k_ h_ => h_)) (Kd.R_lt (hR_ P0.out))) (Kd.R_lt (hR_ P1.out))) hS_); replace P0 := a_ (Kd.R_elder' (hR_ P0.out) (Kd.R_base ho8) hb); replace P1 := a_ (Kd.R_elder' (hR_ P1.out) (Kd.R_base ho8) hb); replace HB := a_ (below_step hB_ hb); clear hb ho8; obtain ⟨a2, o2, e2⟩ := Kd.R_slice P2.out; subst e2) | ((with_reducible refine gate_dst (N := 9) rfl ?_); refine Kd.N_lit k57 _ 57 ?hg (N' := 9) ?hd (xs := ([(⟨0, (-1), ([] : List ByteArray), (⟨#[57]⟩ : ByteArray)⟩ : S57), (⟨1, 0, y0, (⟨#[57]⟩ : ByteArray)⟩ : S57), (⟨2, 0, ([] : List ByteArray), (⟨#[33]⟩ : ByteArray)⟩ : S57), (⟨1, 1, y1, (⟨#[95]⟩ : ByteArray)⟩ : S57), (⟨1, 2, y2, (⟨#[95]⟩ : ByteArray)⟩ : S57)] : List (S57))) (inner := [.int .i64 0, .int .i64 (-1), .slice none 0 0, .string (⟨#[57]⟩ : ByteArray), .int .i64 1, .int .i64 0, .slice a0 y0.length o0, .string (⟨#[57]⟩ : ByteArray), .int .i64 2, .int .i64 0, .slice none 0 0, .string (⟨#[33]⟩ : ByteArray), .int .i64 1, .int .i64 1, .slice a1 y1.length o1, .string (⟨#[95]⟩ : ByteArray), .int .i64 1, .int .i64 2, .slice a2 y2.length o2, .string (⟨#[95]⟩ : ByteArray)]) (ok := (fun k_ => (w.heap.size ≤ k_))) (okp := (fun k_ => (w.heap.size ≤ k_))) ?hr ?hp (fun _ hk => hk) ((show ∀ k_, w7.heap.size ≤ k_ → (fun k_ => (w.heap.size ≤ k_)) k_ from fun k_ hk => (Nat.le_trans hS_ hk)) _ (Nat.le_refl _)) (Below.refl _ _) (Nat.le_refl _) (by simp) ?_; (case hd => rfl); (case hg => rfl); (case hr => first | (go_simp; done) | (go_simp; rfl)); (case hp => exact (Reps.c4 (show Kd.FK k57 _ _ (⟨0, (-1), ([] : List ByteArray), (⟨#[57]⟩ : ByteArray)⟩ : S57) [.int .i64 0, .int .i64 (-1), .slice none 0 0, .string (⟨#[57]⟩ : ByteArray)] from (k57_mkF _ _ (⟨0, (-1), ([] : List ByteArray), (⟨#[57]⟩ : ByteArray)⟩ : S57) (Nat.le_refl _) (Kd.F_nil _ _ _))) (Reps.c4 (show Kd.FK k57 _ _ (⟨1, 0, y0, (⟨#[57]⟩ : ByteArray)⟩ : S57) [.int .i64 1, .int .i64 0, .slice a0 y0.length o0, .string (⟨#[57]⟩ : ByteArray)] from (k57_mkF _ _ (⟨1, 0, y0, (⟨#[57]⟩ : ByteArray)⟩ : S57) (Kd.R_reads' (Kd.R_mono (ok' := (fun k_ => (w.heap.size ≤ k_))) (P0.out) (fun k_ hk => hk.1.1.1))).2.1 (Kd.R_F (Kd.R_mono (ok' := (fun k_ => (w.heap.size ≤ k_))) (P0.out) (fun k_ hk => hk.1.1.1))))) (Reps.c4 (show Kd.FK k57 _ _ (⟨2, 0, ([] : List ByteArray), (⟨#[33]⟩ : ByteArray)⟩ : S57) [.int .i64 2, .int .i64 0, .slice none 0 0, .string (⟨#[33]⟩ : ByteArray)] from (k57_mkF _ _ (⟨2, 0, ([] : List ByteArray), (⟨#[33]⟩ : ByteArray)⟩ : S57) (Nat.le_refl _) (Kd.F_nil _ _ _))) (Reps.c4 (show Kd.FK k57 _ _ (⟨1, 1, y1, (⟨#[95]⟩ : ByteArray)⟩ : S57) [.int .i64 1, .int .i64 1, .slice a1 y1.length o1, .string (⟨#[95]⟩ : ByteArray)] from (k57_mkF _ _ (⟨1, 1, y1, (⟨#[95]⟩ : ByteArray)⟩ : S57) (Kd.R_reads' (Kd.R_mono (ok' := (fun k_ => (w.heap.size ≤ k_))) (P1.out) (fun k_ hk => hk.1.1.1))).2.1 (Kd.R_F (Kd.R_mono (ok' := (fun k_ => (w.heap.size ≤ k_))) (P1.out) (fun k_ hk => hk.1.1.1))))) (Reps.c4 (show Kd.FK k57 _ _ (⟨1, 2, y2, (⟨#[95]⟩ : ByteArray)⟩ : S57) [.int .i64 1, .int .i64 2, .slice a2 y2.length o2, .string (⟨#[95]⟩ : ByteArray)] from (k57_mkF _ _ (⟨1, 2, y2, (⟨#[95]⟩ : ByteArray)⟩ : S57) (Kd.R_reads' (Kd.R_mono (ok' := (fun k_ => (w.heap.size ≤ k_))) (P2.out) (fun k_ hk => hk.1.1.1))).2.1 (Kd.R_F (Kd.R_mono (ok' := (fun k_ => (w.heap.size ≤ k_))) (P2.out) (fun k_ hk => hk.1.1.1))))) (Reps.none _ _))))))); intro v3 w0 ho11 hb hg_ hnew_; clear hg_ hnew_; (first | rw [← Y3.out] at ho11 | (simp only [Int.reduceToNat] at ho11; rw [← Y3.out] at ho11)); have P3 := a_ (Kd.N_lower ho11 hS_); replace HB := a_ (below_step hB_ hb); clear P0 P1 P2; clear hb ho11))
 go_ret
 exact ⟨_, hV_, hN_ P3.out, hC_⟩

set_option maxHeartbeats 8000000
set_option maxRecDepth 100000
attribute [local go_sem] max2_int min2_int max_two min_two max_three min_three max_four min_four   -- for this text's walks alone
set_option linter.unusedVariables false
set_option linter.unusedSimpArgs false

def sleuthlaw21_awake.f (k : Nat)  : Option (Bool) := (sleuthlaw21_some.f).bind fun t435 => ((session_New.f k t435 1).bind fun bt438 => ((session_New.f k ([] : List (S57)) 0).bind fun bt447 => ((sleuthlaw21_some.f).bind fun t456 => ((session_New.f k t456 2).bind fun bt459 => ((sleuthlaw21_some.f).bind fun t468 => ((sleuthlaw21_some.f).bind fun t475 => ((sleuthlaw21_some.f).bind fun t482 => ((sleuthlaw0_SameSession.f k bt438.1 bt438.2.1 bt438.2.2.1 t482 1 ([] : List (S46))).bind fun t485 => (if t485 = true then ((sleuthlaw0_Num.f bt438.2.2.2).bind fun t486 => (if t486 = 0 then ((sleuthlaw0_Num.f bt447.2.2.2).bind fun t487 => (if t487 = 2100 then ((sleuthlaw0_Num.f bt459.2.2.2).bind fun t488 => (if t488 = 2100 then ((session_May.f k bt438.1 bt438.2.1 bt438.2.2.1).bind fun t489 => (if t489 = true then ((session_May.f k t468 0 (([(⟨0, 2⟩ : S46), (⟨1, 1⟩ : S46)] : List (S46)))).bind fun t490 => (if t490 = true then ((session_May.f k t475 0 (([(⟨0, 2⟩ : S46), (⟨2, 1⟩ : S46)] : List (S46)))).bind fun t491 => (some (!t491))) else (none))) else (none))) else (none))) else (none))) else (none))) else (none))))))))))
def sleuthlaw21_awake.T6 : Bool × List (List Nat × List Nat) := (true, [([], []), ([], []), ([1], [1]), ([0, 2, 1], [0, 2]), ([3, 3], [3]), ([4], [4]), ([5, 4, 4], [4, 5]), ([6, 4], [4, 6]), ([4, 7], [4, 7]), ([8, 6], [8]), ([9], [9]), ([10, 9, 9], [9, 10]), ([11, 9], [9, 11]), ([9, 12], [9, 12]), ([13, 11], [13]), ([14], [14]), ([15, 14, 14], [14, 15]), ([16, 14], [14, 16]), ([14, 17], [14, 17]), ([18, 16], [18]), ([19], [19]), ([20, 19, 19], [19, 20]), ([19, 21], [19, 21]), ([22, 21], [22]), ([23], [23]), ([24, 23, 23], [23, 24]), ([23, 25], [23, 25]), ([26, 25], [26]), ([27], [27]), ([28, 27, 27], [27, 28]), ([29, 27], [27, 29]), ([27, 30], [27, 30]), ([31, 29, 0, 1, 2, 3, 4, 5, 6, 7, 8, 9, 10, 11, 12, 13, 14, 15, 16, 17, 18, 19, 20, 21, 22, 23, 24, 25, 26, 27, 28, 29, 30, 31], [31])])
def sleuthlaw21_awake.B6 : List Nat := [0, 0, 2, 7, 15, 31, 63, 127, 255, 511, 1023, 2047, 4095, 8191, 16383, 32767, 65535, 131071, 262143, 524287, 1048575, 2097151, 4194303, 8388607, 16777215, 33554431, 67108863, 134217727, 268435455, 536870911, 1073741823, 2147483647, 4294967295]
theorem sleuthlaw21_awake.tab6 : rtab .any (opsOf Tryz.f12 6) = sleuthlaw21_awake.T6 := by kernel_rfl
theorem sleuthlaw21_awake.bits6 : waitsOk sleuthlaw21_awake.T6.2 sleuthlaw21_awake.B6 = true := by kernel_rfl
theorem sleuthlaw21_awake.calls (k : Nat)  (r : Bool) (w : World) (h : sleuthlaw21_awake.f k  = some r) (hG : GOK w) :
 Calls Tryz.prog 12 #[] w fun e w' => e = .returned (.bool r) ∧ Below w.heap.size w w' := by
 have hu25 := Tryz.underlying25
 have hu46 := Tryz.underlying46
 have HB := a_ (Below.refl w.heap.size w)
 have H := h; unfold sleuthlaw21_awake.f at H
 clear h
 replace H := Option.bind_eq_some_iff.mp H
 obtain ⟨t8, A10, H⟩ := H
 try dsimp only at H
 have A1 := a_ A10
 clear A10
 replace H := Option.bind_eq_some_iff.mp H
 obtain ⟨⟨t2, t6, t0, t17⟩, A20, H⟩ := H
 try dsimp only at H
 have A2 := a_ A20
 clear A20
 replace H := Option.bind_eq_some_iff.mp H
 obtain ⟨⟨t4, t11, t3, t18⟩, A30, H⟩ := H
 try dsimp only at H
 have A3 := a_ A30
 clear A30
 replace H := Option.bind_eq_some_iff.mp H
 obtain ⟨t10, A40, H⟩ := H
 try dsimp only at H
 have A4 := a_ A40
 clear A40
 replace H := Option.bind_eq_some_iff.mp H
 obtain ⟨⟨t9, t15, t5, t19⟩, A50, H⟩ := H
 try dsimp only at H
 have A5 := a_ A50
 clear A50
 replace H := Option.bind_eq_some_iff.mp H
 obtain ⟨t7, A60, H⟩ := H
 try dsimp only at H
 have A6 := a_ A60
 clear A60
 obtain ⟨y1, i0⟩ : ∃ y_ : List (S46), y_ = (([(⟨0, 2⟩ : S46), (⟨1, 1⟩ : S46)] : List (S46))) := ⟨_, rfl⟩
 replace H : ((sleuthlaw21_some.f).bind fun t1 => ((sleuthlaw21_some.f).bind fun t16 => ((sleuthlaw0_SameSession.f k t2 t6 t0 t16 1 ([] : List (S46))).bind fun t20 => (if t20 = true then ((sleuthlaw0_Num.f t17).bind fun t12 => (if t12 = 0 then ((sleuthlaw0_Num.f t18).bind fun t13 => (if t13 = 2100 then ((sleuthlaw0_Num.f t19).bind fun t14 => (if t14 = 2100 then ((session_May.f k t2 t6 t0).bind fun t21 => (if t21 = true then ((session_May.f k t7 0 y1).bind fun t22 => (if t22 = true then ((session_May.f k t1 0 (([(⟨0, 2⟩ : S46), (⟨2, 1⟩ : S46)] : List (S46)))).bind fun t23 => (some (!t23))) else (none))) else (none))) else (none))) else (none))) else (none))) else (none))))) = some r := by first | (rw [i0]; with_reducible exact H) | (have H2_ := (Option.bind_some _ _).symm.trans H; rw [i0]; with_reducible exact H2_) | (have H2_ := (Option.bind_some _ _).symm.trans H; with_reducible exact H2_) | with_reducible exact H | (rw [i0]; exact H) | exact H
 have Y0 := a_ i0
 clear i0
 replace H := Option.bind_eq_some_iff.mp H
 obtain ⟨t1, A70, H⟩ := H
 try dsimp only at H
 have A7 := a_ A70
 clear A70
 obtain ⟨y0, i1⟩ : ∃ y_ : List (S46), y_ = (([(⟨0, 2⟩ : S46), (⟨2, 1⟩ : S46)] : List (S46))) := ⟨_, rfl⟩
 replace H : ((sleuthlaw21_some.f).bind fun t16 => ((sleuthlaw0_SameSession.f k t2 t6 t0 t16 1 ([] : List (S46))).bind fun t20 => (if t20 = true then ((sleuthlaw0_Num.f t17).bind fun t12 => (if t12 = 0 then ((sleuthlaw0_Num.f t18).bind fun t13 => (if t13 = 2100 then ((sleuthlaw0_Num.f t19).bind fun t14 => (if t14 = 2100 then ((session_May.f k t2 t6 t0).bind fun t21 => (if t21 = true then ((session_May.f k t7 0 y1).bind fun t22 => (if t22 = true then ((session_May.f k t1 0 y0).bind fun t23 => (some (!t23))) else (none))) else (none))) else (none))) else (none))) else (none))) else (none)))) = some r := by first | (rw [i1]; with_reducible exact H) | (have H2_ := (Option.bind_some _ _).symm.trans H; rw [i1]; with_reducible exact H2_) | (have H2_ := (Option.bind_some _ _).symm.trans H; with_reducible exact H2_) | with_reducible exact H | (rw [i1]; exact H) | exact H
 have Y1 := a_ i1
 clear i1
 replace H := Option.bind_eq_some_iff.mp H
 obtain ⟨t16, A80, H⟩ := H
 try dsimp only at H
 have A8 := a_ A80
 clear A80
 replace H := Option.bind_eq_some_iff.mp H
 obtain ⟨t20, A90, H⟩ := H
 try dsimp only at H
 have A9 := a_ A90
 clear A90
 by_cases c10 : t20 = true
 case neg =>
  replace c10 := Bool.eq_false_iff.mpr c10
  subst c10
  rw [if_neg (show ¬ (false = true) by decide)] at H
  cases H
 subst c10
 rw [if_pos rfl] at H
 replace H := Option.bind_eq_some_iff.mp H
 obtain ⟨t12, A110, H⟩ := H
 try dsimp only at H
 have A11 := a_ A110
 clear A110
 by_cases c12 : t12 = 0
 case neg =>
  rw [if_neg c12] at H
  have c12b0 : (t12 == 0) = false := beq_eq_false_iff_ne.mpr c12
  have c12b1 : (t12 != 0) = true := bne_iff_ne.mpr c12
  cases H
 rw [if_pos c12] at H
 have c12b0 : (t12 == 0) = true := beq_iff_eq.mpr c12
 have c12b1 : (t12 != 0) = false := bne_eq_false_iff_eq.mpr c12
 clear c12
 replace H := Option.bind_eq_some_iff.mp H
 obtain ⟨t13, A130, H⟩ := H
 try dsimp only at H
 have A13 := a_ A130
 clear A130
 by_cases c14 : t13 = 2100
 case neg =>
  rw [if_neg c14] at H
  have c14b0 : (t13 == 2100) = false := beq_eq_false_iff_ne.mpr c14
  have c14b1 : (t13 != 2100) = true := bne_iff_ne.mpr c14
  cases H
 rw [if_pos c14] at H
 have c14b0 : (t13 == 2100) = true := beq_iff_eq.mpr c14
 have c14b1 : (t13 != 2100) = false := bne_eq_false_iff_eq.mpr c14
 clear c14
 replace H := Option.bind_eq_some_iff.mp H
 obtain ⟨t14, A150, H⟩ := H
 try dsimp only at H
 have A15 := a_ A150
 clear A150
 by_cases c16 : t14 = 2100
 case neg =>
  rw [if_neg c16] at H
  have c16b0 : (t14 == 2100) = false := beq_eq_false_iff_ne.mpr c16
  have c16b1 : (t14 != 2100) = true := bne_iff_ne.mpr c16
  cases H
 rw [if_pos c16] at H
 have c16b0 : (t14 == 2100) = true := beq_iff_eq.mpr c16
 have c16b1 : (t14 != 2100) = false := bne_eq_false_iff_eq.mpr c16
 clear c16
 replace H := Option.bind_eq_some_iff.mp H
 obtain ⟨t21, A170, H⟩ := H
 try dsimp only at H
 have A17 := a_ A170
 clear A170
 by_cases c18 : t21 = true
 case neg =>
  replace c18 := Bool.eq_false_iff.mpr c18
  subst c18
  rw [if_neg (show ¬ (false = true) by decide)] at H
  cases H
 subst c18
 rw [if_pos rfl] at H
 replace H := Option.bind_eq_some_iff.mp H
 obtain ⟨t22, A190, H⟩ := H
 try dsimp only at H
 have A19 := a_ A190
 clear A190
 by_cases c20 : t22 = true
 case neg =>
  replace c20 := Bool.eq_false_iff.mpr c20
  subst c20
  rw [if_neg (show ¬ (false = true) by decide)] at H
  cases H
 subst c20
 rw [if_pos rfl] at H
 replace H := Option.bind_eq_some_iff.mp H
 obtain ⟨t23, A210, H⟩ := H
 try dsimp only at H
 have A21 := a_ A210
 clear A210
 obtain rfl := Option.some.inj H
 go_enter Tryz.func12, Tryz.ntmps12
 try go_wp2_with (first | ((with_reducible refine gate_callee (f := 27) rfl ?_); refine goesL_ (some 10) rfl rfl Tryz.func27 (by kernel_rfl) rfl #[] rfl hL_ ?_; (with_reducible refine (sleuthlaw21_some.calls  t8 _ A1.out).mono ?_); rintro e w2 ⟨v3, rfl, ho0, hb⟩; refine ⟨_, rfl, ?_⟩; have P1 := a_ (Kd.N_lower (Kd.N_mono (ok' := fun k_ => True) ho0 (fun k_ hk_ => trivial)) hS_); replace HB := a_ (below_step hB_ hb); (try clear hb); (try clear hb2); (try clear hk); (try clear hi); (try clear ho0); obtain ⟨a9, o9, e1⟩ := Kd.N_slice P1.out; subst e1) | ((with_reducible refine gate_callee (f := 5) rfl ?_); refine goesL_ (some 11) rfl rfl Tryz.func5 (by kernel_rfl) rfl #[.slice a9 t8.length o9, .int .i64 1] rfl hL_ ?_; (with_reducible refine (session_New.calls k _ _ t8 1 t2 t6 t0 t17 _ ?s1 ?s2 A2.out hG_).mono ?_); (case s1 => repeat (first | exact (Kd.N_reads' P1.out).2.2 | (with_reducible refine Kd.C_alloc ?_ _) | (with_reducible refine Kd.C_drewN ?_ _) | (with_reducible refine Kd.C_drew ?_))); (case s2 => exact (Kd.N_reads' P1.out).2.1); rintro e w3 ⟨v4, v0, rfl, ho0, ho1, hb⟩; refine ⟨_, rfl, ?_⟩; have P2 := a_ (Kd.N_lower (Kd.N_mono (ok' := fun k_ => some k_ ≠ (v0 : Value).ownBlock ∧ some k_ ≠ (.slice a9 t8.length o9 : Value).ownBlock) (Kd.S_N (Kd.S_bound (Kd.S_apart' ho0 (Kd.R_typed ho1) (by decide)))) (fun k_ hk_ => ⟨hk_.1.2, (Kd.fresh' (Kd.N_lt (hN_ P1.out)) k_ hk_.2.1)⟩)) hS_); replace P1 := a_ (Kd.N_mono (Kd.N_told (Kd.N_told (Kd.N_old (hN_ P1.out) hb) (Kd.N_base (Kd.R_N (Kd.S_R ho0)))) (Kd.R_base ho1)) (fun _ h_ => h_.1)); have P0 := a_ (Kd.R_lower ho1 hS_); replace HB := a_ (below_step hB_ hb); (try clear hb); (try clear hb2); (try clear hk); (try clear hi); (try clear ho0); (try clear ho1)) | ((with_reducible refine gate_dst (N := 1) rfl ?_); refine boxE_ 1 #[.slice none 0 0, .int .i64 0, .slice none 0 0] 25 ?_; intro g2 hg w4 hbox hb; replace P1 := a_ (Kd.N_below (Kd.N_elderB (hN_ P1.out) g2 (Nat.le_of_eq hg.symm)) hb); replace P2 := a_ (Kd.N_below (Kd.N_elderB (hN_ P2.out) g2 (Nat.le_of_eq hg.symm)) hb); replace P0 := a_ (Kd.R_below (hR_ P0.out) hb); have B0 := a_ (hbox); have E0 := a_ ((gE_ hg : w.heap.size ≤ g2)); replace HB := a_ (below_step hB_ hb); clear hb hbox hg; obtain ⟨a3, o3, e2⟩ := Kd.N_slice P2.out; subst e2; obtain ⟨z0, z1, z2, f0, f1, f2⟩ := bx3_ B0.out; obtain ⟨a1, o1, e3⟩ := Kd.R_slice P0.out; subst e3) | ((with_reducible refine gate_callee (f := 5) rfl ?_); refine goesL_ (some 15) rfl rfl Tryz.func5 (by kernel_rfl) rfl #[.slice none 0 0, .int .i64 0] rfl hL_ ?_; (refine (session_New.calls k _ _ ([] : List (S57)) 0 t4 t11 t3 t18 _ ?s1 ?s2 A3.out (by first | exact hG | exact GOK.below hG hC_)).mono ?_); (case s1 => exact Kd.C_nil _ _); (case s2 => exact Nat.le_refl _); rintro e w5 ⟨v5, v1, rfl, ho0, ho1, hb⟩; refine ⟨_, rfl, ?_⟩; have P4 := a_ (Kd.N_lower (Kd.N_mono (ok' := fun k_ => some k_ ≠ (v1 : Value).ownBlock ∧ some k_ ≠ (.slice a9 t8.length o9 : Value).ownBlock ∧ some k_ ≠ (.slice a3 t2.length o3 : Value).ownBlock ∧ some k_ ≠ (.slice a1 t0.length o1 : Value).ownBlock ∧ k_ ≠ g2) (Kd.S_N (Kd.S_bound (Kd.S_apart' ho0 (Kd.R_typed ho1) (by decide)))) (fun k_ hk_ => ⟨hk_.1.2, (Kd.fresh' (Kd.N_lt (by (with_reducible repeat (first | apply Kd.N_alloc | apply Kd.N_drewN | apply Kd.N_drew)); exact (Kd.N_mono (nF_ (nF_ (nF_ (Kd.N_mono P1.out (fun k_ hk => (⟨hk, hk.2⟩ : _ ∧ k_ ≠ g2)))))) (fun _ h_ => h_.1)))) k_ hk_.2.1), (Kd.fresh' (Kd.N_lt (by (with_reducible repeat (first | apply Kd.N_alloc | apply Kd.N_drewN | apply Kd.N_drew)); exact (Kd.N_mono (nF_ (nF_ (nF_ (Kd.N_mono P2.out (fun k_ hk => (⟨hk, hk.2⟩ : _ ∧ k_ ≠ g2)))))) (fun _ h_ => h_.1)))) k_ hk_.2.1), (Kd.fresh' (Kd.R_lt (by (with_reducible repeat (first | apply Kd.R_alloc | apply Kd.R_drewN | apply Kd.R_drew)); exact (Kd.R_mono (rF_ (rF_ (rF_ (Kd.R_types P0.out B0.out (by decide))))) (fun _ h_ => h_.1)))) k_ hk_.2.1), (Kd.freshB (g := g2) (o := .cells #[.slice a3 t2.length o3, .int .i64 t6, .slice a1 t0.length o1] 25 (0, 0)) (bP_ (bP_ (bP_ (hK_ B0.out)))) k_ hk_.2.1)⟩)) (below_size hC_)); replace P1 := a_ (Kd.N_mono (Kd.N_told (Kd.N_told (Kd.N_old (by (with_reducible repeat (first | apply Kd.N_alloc | apply Kd.N_drewN | apply Kd.N_drew)); exact (Kd.N_mono (nF_ (nF_ (nF_ (Kd.N_mono P1.out (fun k_ hk => (⟨hk, hk.2⟩ : _ ∧ k_ ≠ g2)))))) (fun _ h_ => h_.1))) hb) (Kd.N_base (Kd.R_N (Kd.S_R ho0)))) (Kd.R_base ho1)) (fun _ h_ => h_.1)); replace P2 := a_ (Kd.N_mono (Kd.N_told (Kd.N_told (Kd.N_old (by (with_reducible repeat (first | apply Kd.N_alloc | apply Kd.N_drewN | apply Kd.N_drew)); exact (Kd.N_mono (nF_ (nF_ (nF_ (Kd.N_mono P2.out (fun k_ hk => (⟨hk, hk.2⟩ : _ ∧ k_ ≠ g2)))))) (fun _ h_ => h_.1))) hb) (Kd.N_base (Kd.R_N (Kd.S_R ho0)))) (Kd.R_base ho1)) (fun _ h_ => h_.1)); have P3 := a_ (Kd.R_lower (Kd.R_new' ho1 (Kd.R_lt (by (with_reducible repeat (first | apply Kd.R_alloc | apply Kd.R_drewN | apply Kd.R_drew)); exact (Kd.R_mono (rF_ (rF_ (rF_ (Kd.R_types P0.out B0.out (by decide))))) (fun _ h_ => h_.1))))) (below_size hC_)); replace P0 := a_ (Kd.R_elder' (by (with_reducible repeat (first | apply Kd.R_alloc | apply Kd.R_drewN | apply Kd.R_drew)); exact (Kd.R_mono (rF_ (rF_ (rF_ (Kd.R_types P0.out B0.out (by decide))))) (fun _ h_ => h_.1))) (Kd.R_base ho1) hb); replace B0 := a_ (blk_below (g := g2) (o := .cells #[.slice a3 t2.length o3, .int .i64 t6, .slice a1 t0.length o1] 25 (0, 0)) (by (with_reducible repeat (first | refine blk_drewN ?_ _ | refine blk_drew ?_ | refine blk_alloc ?_ _)); exact (bP_ (bP_ (bP_ (hK_ B0.out))))) hb); replace HB := a_ (below_step hC_ hb); (try clear hb); (try clear hb2); (try clear hk); (try clear hi); (try clear ho0); (try clear ho1)) | ((with_reducible refine gate_dst (N := 3) rfl ?_); refine boxE_ 3 #[.slice none 0 0, .int .i64 0, .slice none 0 0] 25 ?_; intro g4 hg w6 hbox hb; replace P1 := a_ (Kd.N_below (Kd.N_elderB (hN_ P1.out) g4 (Nat.le_of_eq hg.symm)) hb); replace P2 := a_ (Kd.N_below (Kd.N_elderB (hN_ P2.out) g4 (Nat.le_of_eq hg.symm)) hb); replace P0 := a_ (Kd.R_below (hR_ P0.out) hb); replace P4 := a_ (Kd.N_below (Kd.N_elderB (hN_ P4.out) g4 (Nat.le_of_eq hg.symm)) hb); replace P3 := a_ (Kd.R_below (hR_ P3.out) hb); have B2 := a_ (hbox); have E1 := a_ ((gE_ hg : w.heap.size ≤ g4)); replace HB := a_ (below_step hC_ hb); have N0 := a_ ((bL_ B0.out hg : g2 ≠ g4)); have N10 := a_ ((bG_ B0.out hg : g4 ≠ g2)); replace B0 := a_ (bB_ B0.out hb); clear hb hbox hg; obtain ⟨a5, o5, e4⟩ := Kd.N_slice P4.out; subst e4; have m0 := N10.out; have n0 := N0.out; obtain ⟨z3, z4, z5, f3, f4, f5⟩ := bx3_ B2.out; obtain ⟨a4, o4, e5⟩ := Kd.R_slice P3.out; subst e5) | ((with_reducible refine gate_callee (f := 27) rfl ?_); refine goesL_ (some 19) rfl rfl Tryz.func27 (by kernel_rfl) rfl #[] rfl hL_ ?_; (with_reducible refine (sleuthlaw21_some.calls  t10 _ A4.out).mono ?_); rintro e w7 ⟨v6, rfl, ho0, hb⟩; refine ⟨_, rfl, ?_⟩; have P5 := a_ (Kd.N_lower (Kd.N_mono (ok' := fun k_ => some k_ ≠ (.slice a9 t8.length o9 : Value).ownBlock ∧ some k_ ≠ (.slice a3 t2.length o3 : Value).ownBlock ∧ some k_ ≠ (.slice a1 t0.length o1 : Value).ownBlock ∧ some k_ ≠ (.slice a5 t4.length o5 : Value).ownBlock ∧ some k_ ≠ (.slice a4 t3.length o4 : Value).ownBlock ∧ k_ ≠ g2 ∧ k_ ≠ g4) ho0 (fun k_ hk_ => ⟨(Kd.fresh' (Kd.N_lt (by (with_reducible repeat (first | apply Kd.N_alloc | apply Kd.N_drewN | apply Kd.N_drew)); exact (Kd.N_mono (nF_ (nF_ (nF_ (Kd.N_mono P1.out (fun k_ hk => (⟨hk, hk.2⟩ : _ ∧ k_ ≠ g4)))))) (fun _ h_ => h_.1)))) k_ hk_), (Kd.fresh' (Kd.N_lt (by (with_reducible repeat (first | apply Kd.N_alloc | apply Kd.N_drewN | apply Kd.N_drew)); exact (Kd.N_mono (nF_ (nF_ (nF_ (Kd.N_mono P2.out (fun k_ hk => (⟨hk, hk.2⟩ : _ ∧ k_ ≠ g4)))))) (fun _ h_ => h_.1)))) k_ hk_), (Kd.fresh' (Kd.R_lt (by (with_reducible repeat (first | apply Kd.R_alloc | apply Kd.R_drewN | apply Kd.R_drew)); exact (Kd.R_mono (rF_ (rF_ (rF_ (Kd.R_types P0.out B2.out (by decide))))) (fun _ h_ => h_.1)))) k_ hk_), (Kd.fresh' (Kd.N_lt (by (with_reducible repeat (first | apply Kd.N_alloc | apply Kd.N_drewN | apply Kd.N_drew)); exact (Kd.N_mono (nF_ (nF_ (nF_ (Kd.N_mono P4.out (fun k_ hk => (⟨hk, hk.2⟩ : _ ∧ k_ ≠ g4)))))) (fun _ h_ => h_.1)))) k_ hk_), (Kd.fresh' (Kd.R_lt (by (with_reducible repeat (first | apply Kd.R_alloc | apply Kd.R_drewN | apply Kd.R_drew)); exact (Kd.R_mono (rF_ (rF_ (rF_ (Kd.R_types P3.out B2.out (by decide))))) (fun _ h_ => h_.1)))) k_ hk_), (Kd.freshB (g := g2) (o := .cells #[.slice a3 t2.length o3, .int .i64 t6, .slice a1 t0.length o1] 25 (0, 0)) (bF_ (bF_ (bF_ (hK_ B0.out) N0.out) N0.out) N0.out) k_ hk_), (Kd.freshB (g := g4) (o := .cells #[.slice a5 t4.length o5, .int .i64 t11, .slice a4 t3.length o4] 25 (0, 0)) (bP_ (bP_ (bP_ (hK_ B2.out)))) k_ hk_)⟩)) (below_size hC_)); replace P1 := a_ (Kd.N_elder' (by (with_reducible repeat (first | apply Kd.N_alloc | apply Kd.N_drewN | apply Kd.N_drew)); exact (Kd.N_mono (nF_ (nF_ (nF_ (Kd.N_mono P1.out (fun k_ hk => (⟨hk, hk.2⟩ : _ ∧ k_ ≠ g4)))))) (fun _ h_ => h_.1))) (Kd.N_base ho0) hb); replace P2 := a_ (Kd.N_elder' (by (with_reducible repeat (first | apply Kd.N_alloc | apply Kd.N_drewN | apply Kd.N_drew)); exact (Kd.N_mono (nF_ (nF_ (nF_ (Kd.N_mono P2.out (fun k_ hk => (⟨hk, hk.2⟩ : _ ∧ k_ ≠ g4)))))) (fun _ h_ => h_.1))) (Kd.N_base ho0) hb); replace P0 := a_ (Kd.R_below (by (with_reducible repeat (first | apply Kd.R_alloc | apply Kd.R_drewN | apply Kd.R_drew)); exact (Kd.R_mono (rF_ (rF_ (rF_ (Kd.R_types P0.out B2.out (by decide))))) (fun _ h_ => h_.1))) hb); replace P4 := a_ (Kd.N_elder' (by (with_reducible repeat (first | apply Kd.N_alloc | apply Kd.N_drewN | apply Kd.N_drew)); exact (Kd.N_mono (nF_ (nF_ (nF_ (Kd.N_mono P4.out (fun k_ hk => (⟨hk, hk.2⟩ : _ ∧ k_ ≠ g4)))))) (fun _ h_ => h_.1))) (Kd.N_base ho0) hb); replace P3 := a_ (Kd.R_below (by (with_reducible repeat (first | apply Kd.R_alloc | apply Kd.R_drewN | apply Kd.R_drew)); exact (Kd.R_mono (rF_ (rF_ (rF_ (Kd.R_types P3.out B2.out (by decide))))) (fun _ h_ => h_.1))) hb); replace B0 := a_ (blk_below (g := g2) (o := .cells #[.slice a3 t2.length o3, .int .i64 t6, .slice a1 t0.length o1] 25 (0, 0)) (by (with_reducible repeat (first | refine blk_drewN ?_ _ | refine blk_drew ?_ | refine blk_alloc ?_ _)); exact (bF_ (bF_ (bF_ (hK_ B0.out) N0.out) N0.out) N0.out)) hb); replace B2 := a_ (blk_below (g := g4) (o := .cells #[.slice a5 t4.length o5, .int .i64 t11, .slice a4 t3.length o4] 25 (0, 0)) (by (with_reducible repeat (first | refine blk_drewN ?_ _ | refine blk_drew ?_ | refine blk_alloc ?_ _)); exact (bP_ (bP_ (bP_ (hK_ B2.out))))) hb); replace HB := a_ (below_step hC_ hb); (try clear hb); (try clear hb2); (try clear hk); (try clear hi); (try clear ho0); obtain ⟨a11, o11, e6⟩ := Kd.N_slice P5.out; subst e6) | ((with_reducible refine gate_callee (f := 5) rfl ?_); refine goesL_ (some 20) rfl rfl Tryz.func5 (by kernel_rfl) rfl #[.slice a11 t10.length o11, .int .i64 2] rfl hL_ ?_; (with_reducible refine (session_New.calls k _ _ t10 2 t9 t15 t5 t19 _ ?s1 ?s2 A5.out (by first | exact hG | exact GOK.below hG hC_)).mono ?_); (case s1 => repeat (first | exact (Kd.N_reads' P5.out).2.2 | (with_reducible refine Kd.C_alloc ?_ _) | (with_reducible refine Kd.C_drewN ?_ _) | (with_reducible refine Kd.C_drew ?_))); (case s2 => exact (Kd.N_reads' P5.out).2.1); rintro e w8 ⟨v7, v2, rfl, ho0, ho1, hb⟩; refine ⟨_, rfl, ?_⟩; have P7 := a_ (Kd.N_lower (Kd.N_mono (ok' := fun k_ => some k_ ≠ (v2 : Value).ownBlock ∧ some k_ ≠ (.slice a9 t8.length o9 : Value).ownBlock ∧ some k_ ≠ (.slice a3 t2.length o3 : Value).ownBlock ∧ some k_ ≠ (.slice a1 t0.length o1 : Value).ownBlock ∧ some k_ ≠ (.slice a5 t4.length o5 : Value).ownBlock ∧ some k_ ≠ (.slice a4 t3.length o4 : Value).ownBlock ∧ some k_ ≠ (.slice a11 t10.length o11 : Value).ownBlock ∧ k_ ≠ g2 ∧ k_ ≠ g4) (Kd.S_N (Kd.S_bound (Kd.S_apart' ho0 (Kd.R_typed ho1) (by decide)))) (fun k_ hk_ => ⟨hk_.1.2, (Kd.fresh' (Kd.N_lt (hN_ P1.out)) k_ hk_.2.1), (Kd.fresh' (Kd.N_lt (hN_ P2.out)) k_ hk_.2.1), (Kd.fresh' (Kd.R_lt (hR_ P0.out)) k_ hk_.2.1), (Kd.fresh' (Kd.N_lt (hN_ P4.out)) k_ hk_.2.1), (Kd.fresh' (Kd.R_lt (hR_ P3.out)) k_ hk_.2.1), (Kd.fresh' (Kd.N_lt (hN_ P5.out)) k_ hk_.2.1), (Kd.freshB (g := g2) (o := .cells #[.slice a3 t2.length o3, .int .i64 t6, .slice a1 t0.length o1] 25 (0, 0)) (hK_ B0.out) k_ hk_.2.1), (Kd.freshB (g := g4) (o := .cells #[.slice a5 t4.length o5, .int .i64 t11, .slice a4 t3.length o4] 25 (0, 0)) (hK_ B2.out) k_ hk_.2.1)⟩)) (below_size hC_)); replace P1 := a_ (Kd.N_mono (Kd.N_told (Kd.N_told (Kd.N_old (hN_ P1.out) hb) (Kd.N_base (Kd.R_N (Kd.S_R ho0)))) (Kd.R_base ho1)) (fun _ h_ => h_.1)); replace P2 := a_ (Kd.N_mono (Kd.N_told (Kd.N_told (Kd.N_old (hN_ P2.out) hb) (Kd.N_base (Kd.R_N (Kd.S_R ho0)))) (Kd.R_base ho1)) (fun _ h_ => h_.1)); replace P4 := a_ (Kd.N_mono (Kd.N_told (Kd.N_told (Kd.N_old (hN_ P4.out) hb) (Kd.N_base (Kd.R_N (Kd.S_R ho0)))) (Kd.R_base ho1)) (fun _ h_ => h_.1)); replace P5 := a_ (Kd.N_mono (Kd.N_told (Kd.N_told (Kd.N_old (hN_ P5.out) hb) (Kd.N_base (Kd.R_N (Kd.S_R ho0)))) (Kd.R_base ho1)) (fun _ h_ => h_.1)); have P6 := a_ (Kd.R_lower (Kd.R_new' (Kd.R_new' ho1 (Kd.R_lt (hR_ P0.out))) (Kd.R_lt (hR_ P3.out))) (below_size hC_)); replace P0 := a_ (Kd.R_elder' (hR_ P0.out) (Kd.R_base ho1) hb); replace P3 := a_ (Kd.R_elder' (hR_ P3.out) (Kd.R_base ho1) hb); replace B0 := a_ (bB_ B0.out hb); replace B2 := a_ (bB_ B2.out hb); replace HB := a_ (below_step hC_ hb); (try clear hb); (try clear hb2); (try clear hk); (try clear hi); (try clear ho0); (try clear ho1)) | ((with_reducible refine gate_dst (N := 5) rfl ?_); refine boxE_ 5 #[.slice none 0 0, .int .i64 0, .slice none 0 0] 25 ?_; intro g3 hg w9 hbox hb; replace P1 := a_ (Kd.N_below (Kd.N_elderB (hN_ P1.out) g3 (Nat.le_of_eq hg.symm)) hb); replace P2 := a_ (Kd.N_below (Kd.N_elderB (hN_ P2.out) g3 (Nat.le_of_eq hg.symm)) hb); replace P0 := a_ (Kd.R_below (hR_ P0.out) hb); replace P4 := a_ (Kd.N_below (Kd.N_elderB (hN_ P4.out) g3 (Nat.le_of_eq hg.symm)) hb); replace P3 := a_ (Kd.R_below (hR_ P3.out) hb); replace P5 := a_ (Kd.N_below (Kd.N_elderB (hN_ P5.out) g3 (Nat.le_of_eq hg.symm)) hb); replace P7 := a_ (Kd.N_below (Kd.N_elderB (hN_ P7.out) g3 (Nat.le_of_eq hg.symm)) hb); replace P6 := a_ (Kd.R_below (hR_ P6.out) hb); have B4 := a_ (hbox); have E2 := a_ ((gE_ hg : w.heap.size ≤ g3)); replace HB := a_ (below_step hC_ hb); have N1 := a_ ((bL_ B0.out hg : g2 ≠ g3)); have N11 := a_ ((bG_ B0.out hg : g3 ≠ g2)); replace B0 := a_ (bB_ B0.out hb); have N2 := a_ ((bL_ B2.out hg : g4 ≠ g3)); have N12 := a_ ((bG_ B2.out hg : g3 ≠ g4)); replace B2 := a_ (bB_ B2.out hb); clear hb hbox hg; obtain ⟨a8, o8, e7⟩ := Kd.N_slice P7.out; subst e7; have m1 := N11.out; have n1 := N1.out; have m2 := N12.out; have n2 := N2.out; obtain ⟨z6, z7, z8, f6, f7, f8⟩ := bx3_ B4.out; obtain ⟨a6, o6, e8⟩ := Kd.R_slice P6.out; subst e8) | ((with_reducible refine gate_callee (f := 27) rfl ?_); refine goesL_ (some 23) rfl rfl Tryz.func27 (by kernel_rfl) rfl #[] rfl hL_ ?_; (with_reducible refine (sleuthlaw21_some.calls  t7 _ A6.out).mono ?_); rintro e w44 ⟨v8, rfl, ho0, hb⟩; refine ⟨_, rfl, ?_⟩; have P8 := a_ (Kd.N_lower (Kd.N_mono (ok' := fun k_ => some k_ ≠ (.slice a9 t8.length o9 : Value).ownBlock ∧ some k_ ≠ (.slice a3 t2.length o3 : Value).ownBlock ∧ some k_ ≠ (.slice a1 t0.length o1 : Value).ownBlock ∧ some k_ ≠ (.slice a5 t4.length o5 : Value).ownBlock ∧ some k_ ≠ (.slice a4 t3.length o4 : Value).ownBlock ∧ some k_ ≠ (.slice a11 t10.length o11 : Value).ownBlock ∧ some k_ ≠ (.slice a8 t9.length o8 : Value).ownBlock ∧ some k_ ≠ (.slice a6 t5.length o6 : Value).ownBlock ∧ k_ ≠ g2 ∧ k_ ≠ g4 ∧ k_ ≠ g3) ho0 (fun k_ hk_ => ⟨(Kd.fresh' (Kd.N_lt (by (with_reducible repeat (first | apply Kd.N_alloc | apply Kd.N_drewN | apply Kd.N_drew)); exact (Kd.N_mono (nF_ (nF_ (nF_ (Kd.N_mono P1.out (fun k_ hk => (⟨hk, hk.2⟩ : _ ∧ k_ ≠ g3)))))) (fun _ h_ => h_.1)))) k_ hk_), (Kd.fresh' (Kd.N_lt (by (with_reducible repeat (first | apply Kd.N_alloc | apply Kd.N_drewN | apply Kd.N_drew)); exact (Kd.N_mono (nF_ (nF_ (nF_ (Kd.N_mono P2.out (fun k_ hk => (⟨hk, hk.2⟩ : _ ∧ k_ ≠ g3)))))) (fun _ h_ => h_.1)))) k_ hk_), (Kd.fresh' (Kd.R_lt (by (with_reducible repeat (first | apply Kd.R_alloc | apply Kd.R_drewN | apply Kd.R_drew)); exact (Kd.R_mono (rF_ (rF_ (rF_ (Kd.R_types P0.out B4.out (by decide))))) (fun _ h_ => h_.1)))) k_ hk_), (Kd.fresh' (Kd.N_lt (by (with_reducible repeat (first | apply Kd.N_alloc | apply Kd.N_drewN | apply Kd.N_drew)); exact (Kd.N_mono (nF_ (nF_ (nF_ (Kd.N_mono P4.out (fun k_ hk => (⟨hk, hk.2⟩ : _ ∧ k_ ≠ g3)))))) (fun _ h_ => h_.1)))) k_ hk_), (Kd.fresh' (Kd.R_lt (by (with_reducible repeat (first | apply Kd.R_alloc | apply Kd.R_drewN | apply Kd.R_drew)); exact (Kd.R_mono (rF_ (rF_ (rF_ (Kd.R_types P3.out B4.out (by decide))))) (fun _ h_ => h_.1)))) k_ hk_), (Kd.fresh' (Kd.N_lt (by (with_reducible repeat (first | apply Kd.N_alloc | apply Kd.N_drewN | apply Kd.N_drew)); exact (Kd.N_mono (nF_ (nF_ (nF_ (Kd.N_mono P5.out (fun k_ hk => (⟨hk, hk.2⟩ : _ ∧ k_ ≠ g3)))))) (fun _ h_ => h_.1)))) k_ hk_), (Kd.fresh' (Kd.N_lt (by (with_reducible repeat (first | apply Kd.N_alloc | apply Kd.N_drewN | apply Kd.N_drew)); exact (Kd.N_mono (nF_ (nF_ (nF_ (Kd.N_mono P7.out (fun k_ hk => (⟨hk, hk.2⟩ : _ ∧ k_ ≠ g3)))))) (fun _ h_ => h_.1)))) k_ hk_), (Kd.fresh' (Kd.R_lt (by (with_reducible repeat (first | apply Kd.R_alloc | apply Kd.R_drewN | apply Kd.R_drew)); exact (Kd.R_mono (rF_ (rF_ (rF_ (Kd.R_types P6.out B4.out (by decide))))) (fun _ h_ => h_.1)))) k_ hk_), (Kd.freshB (g := g2) (o := .cells #[.slice a3 t2.length o3, .int .i64 t6, .slice a1 t0.length o1] 25 (0, 0)) (bF_ (bF_ (bF_ (hK_ B0.out) N1.out) N1.out) N1.out) k_ hk_), (Kd.freshB (g := g4) (o := .cells #[.slice a5 t4.length o5, .int .i64 t11, .slice a4 t3.length o4] 25 (0, 0)) (bF_ (bF_ (bF_ (hK_ B2.out) N2.out) N2.out) N2.out) k_ hk_), (Kd.freshB (g := g3) (o := .cells #[.slice a8 t9.length o8, .int .i64 t15, .slice a6 t5.length o6] 25 (0, 0)) (bP_ (bP_ (bP_ (hK_ B4.out)))) k_ hk_)⟩)) (below_size hC_)); replace P1 := a_ (Kd.N_elder' (by (with_reducible repeat (first | apply Kd.N_alloc | apply Kd.N_drewN | apply Kd.N_drew)); exact (Kd.N_mono (nF_ (nF_ (nF_ (Kd.N_mono P1.out (fun k_ hk => (⟨hk, hk.2⟩ : _ ∧ k_ ≠ g3)))))) (fun _ h_ => h_.1))) (Kd.N_base ho0) hb); replace P2 := a_ (Kd.N_elder' (by (with_reducible repeat (first | apply Kd.N_alloc | apply Kd.N_drewN | apply Kd.N_drew)); exact (Kd.N_mono (nF_ (nF_ (nF_ (Kd.N_mono P2.out (fun k_ hk => (⟨hk, hk.2⟩ : _ ∧ k_ ≠ g3)))))) (fun _ h_ => h_.1))) (Kd.N_base ho0) hb); replace P0 := a_ (Kd.R_below (by (with_reducible repeat (first | apply Kd.R_alloc | apply Kd.R_drewN | apply Kd.R_drew)); exact (Kd.R_mono (rF_ (rF_ (rF_ (Kd.R_types P0.out B4.out (by decide))))) (fun _ h_ => h_.1))) hb); replace P4 := a_ (Kd.N_elder' (by (with_reducible repeat (first | apply Kd.N_alloc | apply Kd.N_drewN | apply Kd.N_drew)); exact (Kd.N_mono (nF_ (nF_ (nF_ (Kd.N_mono P4.out (fun k_ hk => (⟨hk, hk.2⟩ : _ ∧ k_ ≠ g3)))))) (fun _ h_ => h_.1))) (Kd.N_base ho0) hb); replace P3 := a_ (Kd.R_below (by (with_reducible repeat (first | apply Kd.R_alloc | apply Kd.R_drewN | apply Kd.R_drew)); exact (Kd.R_mono (rF_ (rF_ (rF_ (Kd.R_types P3.out B4.out (by decide))))) (fun _ h_ => h_.1))) hb); replace P5 := a_ (Kd.N_elder' (by (with_reducible repeat (first | apply Kd.N_alloc | apply Kd.N_drewN | apply Kd.N_drew)); exact (Kd.N_mono (nF_ (nF_ (nF_ (Kd.N_mono P5.out (fun k_ hk => (⟨hk, hk.2⟩ : _ ∧ k_ ≠ g3)))))) (fun _ h_ => h_.1))) (Kd.N_base ho0) hb); replace P7 := a_ (Kd.N_elder' (by (with_reducible repeat (first | apply Kd.N_alloc | apply Kd.N_drewN | apply Kd.N_drew)); exact (Kd.N_mono (nF_ (nF_ (nF_ (Kd.N_mono P7.out (fun k_ hk => (⟨hk, hk.2⟩ : _ ∧ k_ ≠ g3)))))) (fun _ h_ => h_.1))) (Kd.N_base ho0) hb); replace P6 := a_ (Kd.R_below (by (with_reducible repeat (first | apply Kd.R_alloc | apply Kd.R_drewN | apply Kd.R_drew)); exact (Kd.R_mono (rF_ (rF_ (rF_ (Kd.R_types P6.out B4.out (by decide))))) (fun _ h_ => h_.1))) hb); replace B0 := a_ (blk_below (g := g2) (o := .cells #[.slice a3 t2.length o3, .int .i64 t6, .slice a1 t0.length o1] 25 (0, 0)) (by (with_reducible repeat (first | refine blk_drewN ?_ _ | refine blk_drew ?_ | refine blk_alloc ?_ _)); exact (bF_ (bF_ (bF_ (hK_ B0.out) N1.out) N1.out) N1.out)) hb); replace B2 := a_ (blk_below (g := g4) (o := .cells #[.slice a5 t4.length o5, .int .i64 t11, .slice a4 t3.length o4] 25 (0, 0)) (by (with_reducible repeat (first | refine blk_drewN ?_ _ | refine blk_drew ?_ | refine blk_alloc ?_ _)); exact (bF_ (bF_ (bF_ (hK_ B2.out) N2.out) N2.out) N2.out)) hb); replace B4 := a_ (blk_below (g := g3) (o := .cells #[.slice a8 t9.length o8, .int .i64 t15, .slice a6 t5.length o6] 25 (0, 0)) (by (with_reducible repeat (first | refine blk_drewN ?_ _ | refine blk_drew ?_ | refine blk_alloc ?_ _)); exact (bP_ (bP_ (bP_ (hK_ B4.out))))) hb); replace HB := a_ (below_step hC_ hb); (try clear hb); (try clear hb2); (try clear hk); (try clear hi); (try clear ho0)) | ((with_reducible refine gate_dst (N := 26) rfl ?_); refine Kd.R_lit k46 _ 46 ?hg (N := 26) ?hd (xs := ([(⟨0, 2⟩ : S46), (⟨1, 1⟩ : S46)] : List (S46))) (inner := [.int .i64 0, .int .i64 2, .int .i64 1, .int .i64 1]) (ok := fun _ => True) (okp := fun _ => True) ?hr ?hp (fun _ hk => hk) trivial (Below.refl _ _) (Nat.le_refl _) (by simp) ?_; (case hd => rfl); (case hg => rfl); (case hr => first | (go_simp; done) | (go_simp; rfl)); (case hp => exact (Reps.c2 (show Kd.M k46 _ _ _ (⟨0, 2⟩ : S46) [.int .i64 0, .int .i64 2] from (k46_mkM _ _ _ (⟨0, 2⟩ : S46) )) (Reps.c2 (show Kd.M k46 _ _ _ (⟨1, 1⟩ : S46) [.int .i64 1, .int .i64 1] from (k46_mkM _ _ _ (⟨1, 1⟩ : S46) )) (Reps.none _ _)))); intro v9 w45 ho46 hb hg_ hnew_; clear hg_ hnew_; (first | rw [← Y0.out] at ho46 | (simp only [Int.reduceToNat] at ho46; rw [← Y0.out] at ho46)); replace P1 := a_ (Kd.N_elder' (hN_ P1.out) (Kd.R_base ho46) hb); replace P2 := a_ (Kd.N_elder' (hN_ P2.out) (Kd.R_base ho46) hb); replace P4 := a_ (Kd.N_elder' (hN_ P4.out) (Kd.R_base ho46) hb); replace P5 := a_ (Kd.N_elder' (hN_ P5.out) (Kd.R_base ho46) hb); replace P7 := a_ (Kd.N_elder' (hN_ P7.out) (Kd.R_base ho46) hb); replace P8 := a_ (Kd.N_elder' (hN_ P8.out) (Kd.R_base ho46) hb); have P9 := a_ (Kd.R_lower (Kd.R_new' (Kd.R_new' (Kd.R_new' ho46 (Kd.R_lt (hR_ P0.out))) (Kd.R_lt (hR_ P3.out))) (Kd.R_lt (hR_ P6.out))) (below_size hC_)); replace P0 := a_ (Kd.R_elder' (hR_ P0.out) (Kd.R_base ho46) hb); replace P3 := a_ (Kd.R_elder' (hR_ P3.out) (Kd.R_base ho46) hb); replace P6 := a_ (Kd.R_elder' (hR_ P6.out) (Kd.R_base ho46) hb); replace B0 := a_ (bB_ B0.out hb); replace B2 := a_ (bB_ B2.out hb); replace B4 := a_ (bB_ B4.out hb); replace HB := a_ (below_step hC_ hb); clear hb ho46; obtain ⟨a7, o7, e9⟩ := Kd.R_slice P9.out; subst e9; obtain ⟨a10, o10, e10⟩ := Kd.N_slice P8.out; subst e10) | ((with_reducible refine gate_dst (N := 7) rfl ?_); refine boxE_ 7 #[.slice none 0 0, .int .i64 0, .slice none 0 0] 25 ?_; intro g1 hg w49 hbox hb; replace P1 := a_ (Kd.N_below (Kd.N_elderB (hN_ P1.out) g1 (Nat.le_of_eq hg.symm)) hb); replace P2 := a_ (Kd.N_below (Kd.N_elderB (hN_ P2.out) g1 (Nat.le_of_eq hg.symm)) hb); replace P0 := a_ (Kd.R_below (hR_ P0.out) hb); replace P4 := a_ (Kd.N_below (Kd.N_elderB (hN_ P4.out) g1 (Nat.le_of_eq hg.symm)) hb); replace P3 := a_ (Kd.R_below (hR_ P3.out) hb); replace P5 := a_ (Kd.N_below (Kd.N_elderB (hN_ P5.out) g1 (Nat.le_of_eq hg.symm)) hb); replace P7 := a_ (Kd.N_below (Kd.N_elderB (hN_ P7.out) g1 (Nat.le_of_eq hg.symm)) hb); replace P6 := a_ (Kd.R_below (hR_ P6.out) hb); replace P8 := a_ (Kd.N_below (Kd.N_elderB (hN_ P8.out) g1 (Nat.le_of_eq hg.symm)) hb); replace P9 := a_ (Kd.R_below (hR_ P9.out) hb); have B1 := a_ (hbox); have E3 := a_ ((gE_ hg : w.heap.size ≤ g1)); replace HB := a_ (below_step hC_ hb); have N3 := a_ ((bL_ B0.out hg : g2 ≠ g1)); have N13 := a_ ((bG_ B0.out hg : g1 ≠ g2)); replace B0 := a_ (bB_ B0.out hb); have N4 := a_ ((bL_ B2.out hg : g4 ≠ g1)); have N14 := a_ ((bG_ B2.out hg : g1 ≠ g4)); replace B2 := a_ (bB_ B2.out hb); have N5 := a_ ((bL_ B4.out hg : g3 ≠ g1)); have N15 := a_ ((bG_ B4.out hg : g1 ≠ g3)); replace B4 := a_ (bB_ B4.out hb); clear hb hbox hg; have m3 := N13.out; have n3 := N3.out; have m4 := N14.out; have n4 := N4.out; have m5 := N15.out; have n5 := N5.out; obtain ⟨z9, z10, z11, f9, f10, f11⟩ := bx3_ B1.out) | ((with_reducible refine gate_callee (f := 27) rfl ?_); refine goesL_ (some 28) rfl rfl Tryz.func27 (by kernel_rfl) rfl #[] rfl hL_ ?_; (with_reducible refine (sleuthlaw21_some.calls  t1 _ A7.out).mono ?_); rintro e w54 ⟨v10, rfl, ho0, hb⟩; refine ⟨_, rfl, ?_⟩; have P10 := a_ (Kd.N_lower (Kd.N_mono (ok' := fun k_ => some k_ ≠ (.slice a9 t8.length o9 : Value).ownBlock ∧ some k_ ≠ (.slice a3 t2.length o3 : Value).ownBlock ∧ some k_ ≠ (.slice a1 t0.length o1 : Value).ownBlock ∧ some k_ ≠ (.slice a5 t4.length o5 : Value).ownBlock ∧ some k_ ≠ (.slice a4 t3.length o4 : Value).ownBlock ∧ some k_ ≠ (.slice a11 t10.length o11 : Value).ownBlock ∧ some k_ ≠ (.slice a8 t9.length o8 : Value).ownBlock ∧ some k_ ≠ (.slice a6 t5.length o6 : Value).ownBlock ∧ some k_ ≠ (.slice a10 t7.length o10 : Value).ownBlock ∧ some k_ ≠ (.slice a7 y1.length o7 : Value).ownBlock ∧ k_ ≠ g2 ∧ k_ ≠ g4 ∧ k_ ≠ g3 ∧ k_ ≠ g1) ho0 (fun k_ hk_ => ⟨(Kd.fresh' (Kd.N_lt (by (with_reducible repeat (first | apply Kd.N_alloc | apply Kd.N_drewN | apply Kd.N_drew)); exact (Kd.N_mono (nF_ (nF_ (nF_ (Kd.N_mono P1.out (fun k_ hk => (⟨hk, hk.2⟩ : _ ∧ k_ ≠ g1)))))) (fun _ h_ => h_.1)))) k_ hk_), (Kd.fresh' (Kd.N_lt (by (with_reducible repeat (first | apply Kd.N_alloc | apply Kd.N_drewN | apply Kd.N_drew)); exact (Kd.N_mono (nF_ (nF_ (nF_ (Kd.N_mono P2.out (fun k_ hk => (⟨hk, hk.2⟩ : _ ∧ k_ ≠ g1)))))) (fun _ h_ => h_.1)))) k_ hk_), (Kd.fresh' (Kd.R_lt (by (with_reducible repeat (first | apply Kd.R_alloc | apply Kd.R_drewN | apply Kd.R_drew)); exact (Kd.R_mono (rF_ (rF_ (rF_ (Kd.R_types P0.out B1.out (by decide))))) (fun _ h_ => h_.1)))) k_ hk_), (Kd.fresh' (Kd.N_lt (by (with_reducible repeat (first | apply Kd.N_alloc | apply Kd.N_drewN | apply Kd.N_drew)); exact (Kd.N_mono (nF_ (nF_ (nF_ (Kd.N_mono P4.out (fun k_ hk => (⟨hk, hk.2⟩ : _ ∧ k_ ≠ g1)))))) (fun _ h_ => h_.1)))) k_ hk_), (Kd.fresh' (Kd.R_lt (by (with_reducible repeat (first | apply Kd.R_alloc | apply Kd.R_drewN | apply Kd.R_drew)); exact (Kd.R_mono (rF_ (rF_ (rF_ (Kd.R_types P3.out B1.out (by decide))))) (fun _ h_ => h_.1)))) k_ hk_), (Kd.fresh' (Kd.N_lt (by (with_reducible repeat (first | apply Kd.N_alloc | apply Kd.N_drewN | apply Kd.N_drew)); exact (Kd.N_mono (nF_ (nF_ (nF_ (Kd.N_mono P5.out (fun k_ hk => (⟨hk, hk.2⟩ : _ ∧ k_ ≠ g1)))))) (fun _ h_ => h_.1)))) k_ hk_), (Kd.fresh' (Kd.N_lt (by (with_reducible repeat (first | apply Kd.N_alloc | apply Kd.N_drewN | apply Kd.N_drew)); exact (Kd.N_mono (nF_ (nF_ (nF_ (Kd.N_mono P7.out (fun k_ hk => (⟨hk, hk.2⟩ : _ ∧ k_ ≠ g1)))))) (fun _ h_ => h_.1)))) k_ hk_), (Kd.fresh' (Kd.R_lt (by (with_reducible repeat (first | apply Kd.R_alloc | apply Kd.R_drewN | apply Kd.R_drew)); exact (Kd.R_mono (rF_ (rF_ (rF_ (Kd.R_types P6.out B1.out (by decide))))) (fun _ h_ => h_.1)))) k_ hk_), (Kd.fresh' (Kd.N_lt (by (with_reducible repeat (first | apply Kd.N_alloc | apply Kd.N_drewN | apply Kd.N_drew)); exact (Kd.N_mono (nF_ (nF_ (nF_ (Kd.N_mono P8.out (fun k_ hk => (⟨hk, hk.2⟩ : _ ∧ k_ ≠ g1)))))) (fun _ h_ => h_.1)))) k_ hk_), (Kd.fresh' (Kd.R_lt (by (with_reducible repeat (first | apply Kd.R_alloc | apply Kd.R_drewN | apply Kd.R_drew)); exact (Kd.R_mono (rF_ (rF_ (rF_ (Kd.R_types P9.out B1.out (by decide))))) (fun _ h_ => h_.1)))) k_ hk_), (Kd.freshB (g := g2) (o := .cells #[.slice a3 t2.length o3, .int .i64 t6, .slice a1 t0.length o1] 25 (0, 0)) (bF_ (bF_ (bF_ (hK_ B0.out) N3.out) N3.out) N3.out) k_ hk_), (Kd.freshB (g := g4) (o := .cells #[.slice a5 t4.length o5, .int .i64 t11, .slice a4 t3.length o4] 25 (0, 0)) (bF_ (bF_ (bF_ (hK_ B2.out) N4.out) N4.out) N4.out) k_ hk_), (Kd.freshB (g := g3) (o := .cells #[.slice a8 t9.length o8, .int .i64 t15, .slice a6 t5.length o6] 25 (0, 0)) (bF_ (bF_ (bF_ (hK_ B4.out) N5.out) N5.out) N5.out) k_ hk_), (Kd.freshB (g := g1) (o := .cells #[.slice a10 t7.length o10, .int .i64 0, .slice a7 y1.length o7] 25 (0, 0)) (bP_ (bP_ (bP_ (hK_ B1.out)))) k_ hk_)⟩)) (below_size hC_)); replace P1 := a_ (Kd.N_elder' (by (with_reducible repeat (first | apply Kd.N_alloc | apply Kd.N_drewN | apply Kd.N_drew)); exact (Kd.N_mono (nF_ (nF_ (nF_ (Kd.N_mono P1.out (fun k_ hk => (⟨hk, hk.2⟩ : _ ∧ k_ ≠ g1)))))) (fun _ h_ => h_.1))) (Kd.N_base ho0) hb); replace P2 := a_ (Kd.N_elder' (by (with_reducible repeat (first | apply Kd.N_alloc | apply Kd.N_drewN | apply Kd.N_drew)); exact (Kd.N_mono (nF_ (nF_ (nF_ (Kd.N_mono P2.out (fun k_ hk => (⟨hk, hk.2⟩ : _ ∧ k_ ≠ g1)))))) (fun _ h_ => h_.1))) (Kd.N_base ho0) hb); replace P0 := a_ (Kd.R_below (by (with_reducible repeat (first | apply Kd.R_alloc | apply Kd.R_drewN | apply Kd.R_drew)); exact (Kd.R_mono (rF_ (rF_ (rF_ (Kd.R_types P0.out B1.out (by decide))))) (fun _ h_ => h_.1))) hb); replace P4 := a_ (Kd.N_elder' (by (with_reducible repeat (first | apply Kd.N_alloc | apply Kd.N_drewN | apply Kd.N_drew)); exact (Kd.N_mono (nF_ (nF_ (nF_ (Kd.N_mono P4.out (fun k_ hk => (⟨hk, hk.2⟩ : _ ∧ k_ ≠ g1)))))) (fun _ h_ => h_.1))) (Kd.N_base ho0) hb); replace P3 := a_ (Kd.R_below (by (with_reducible repeat (first | apply Kd.R_alloc | apply Kd.R_drewN | apply Kd.R_drew)); exact (Kd.R_mono (rF_ (rF_ (rF_ (Kd.R_types P3.out B1.out (by decide))))) (fun _ h_ => h_.1))) hb); replace P5 := a_ (Kd.N_elder' (by (with_reducible repeat (first | apply Kd.N_alloc | apply Kd.N_drewN | apply Kd.N_drew)); exact (Kd.N_mono (nF_ (nF_ (nF_ (Kd.N_mono P5.out (fun k_ hk => (⟨hk, hk.2⟩ : _ ∧ k_ ≠ g1)))))) (fun _ h_ => h_.1))) (Kd.N_base ho0) hb); replace P7 := a_ (Kd.N_elder' (by (with_reducible repeat (first | apply Kd.N_alloc | apply Kd.N_drewN | apply Kd.N_drew)); exact (Kd.N_mono (nF_ (nF_ (nF_ (Kd.N_mono P7.out (fun k_ hk => (⟨hk, hk.2⟩ : _ ∧ k_ ≠ g1)))))) (fun _ h_ => h_.1))) (Kd.N_base ho0) hb); replace P6 := a_ (Kd.R_below (by (with_reducible repeat (first | apply Kd.R_alloc | apply Kd.R_drewN | apply Kd.R_drew)); exact (Kd.R_mono (rF_ (rF_ (rF_ (Kd.R_types P6.out B1.out (by decide))))) (fun _ h_ => h_.1))) hb); replace P8 := a_ (Kd.N_elder' (by (with_reducible repeat (first | apply Kd.N_alloc | apply Kd.N_drewN | apply Kd.N_drew)); exact (Kd.N_mono (nF_ (nF_ (nF_ (Kd.N_mono P8.out (fun k_ hk => (⟨hk, hk.2⟩ : _ ∧ k_ ≠ g1)))))) (fun _ h_ => h_.1))) (Kd.N_base ho0) hb); replace P9 := a_ (Kd.R_below (by (with_reducible repeat (first | apply Kd.R_alloc | apply Kd.R_drewN | apply Kd.R_drew)); exact (Kd.R_mono (rF_ (rF_ (rF_ (Kd.R_types P9.out B1.out (by decide))))) (fun _ h_ => h_.1))) hb); replace B0 := a_ (blk_below (g := g2) (o := .cells #[.slice a3 t2.length o3, .int .i64 t6, .slice a1 t0.length o1] 25 (0, 0)) (by (with_reducible repeat (first | refine blk_drewN ?_ _ | refine blk_drew ?_ | refine blk_alloc ?_ _)); exact (bF_ (bF_ (bF_ (hK_ B0.out) N3.out) N3.out) N3.out)) hb); replace B2 := a_ (blk_below (g := g4) (o := .cells #[.slice a5 t4.length o5, .int .i64 t11, .slice a4 t3.length o4] 25 (0, 0)) (by (with_reducible repeat (first | refine blk_drewN ?_ _ | refine blk_drew ?_ | refine blk_alloc ?_ _)); exact (bF_ (bF_ (bF_ (hK_ B2.out) N4.out) N4.out) N4.out)) hb); replace B4 := a_ (blk_below (g := g3) (o := .cells #[.slice a8 t9.length o8, .int .i64 t15, .slice a6 t5.length o6] 25 (0, 0)) (by (with_reducible repeat (first | refine blk_drewN ?_ _ | refine blk_drew ?_ | refine blk_alloc ?_ _)); exact (bF_ (bF_ (bF_ (hK_ B4.out) N5.out) N5.out) N5.out)) hb); replace B1 := a_ (blk_below (g := g1) (o := .cells #[.slice a10 t7.length o10, .int .i64 0, .slice a7 y1.length o7] 25 (0, 0)) (by (with_reducible repeat (first | refine blk_drewN ?_ _ | refine blk_drew ?_ | refine blk_alloc ?_ _)); exact (bP_ (bP_ (bP_ (hK_ B1.out))))) hb); replace HB := a_ (below_step hC_ hb); (try clear hb); (try clear hb2); (try clear hk); (try clear hi); (try clear ho0)) | ((with_reducible refine gate_dst (N := 31) rfl ?_); refine Kd.R_lit k46 _ 46 ?hg (N := 31) ?hd (xs := ([(⟨0, 2⟩ : S46), (⟨2, 1⟩ : S46)] : List (S46))) (inner := [.int .i64 0, .int .i64 2, .int .i64 2, .int .i64 1]) (ok := fun _ => True) (okp := fun _ => True) ?hr ?hp (fun _ hk => hk) trivial (Below.refl _ _) (Nat.le_refl _) (by simp) ?_; (case hd => rfl); (case hg => rfl); (case hr => first | (go_simp; done) | (go_simp; rfl)); (case hp => exact (Reps.c2 (show Kd.M k46 _ _ _ (⟨0, 2⟩ : S46) [.int .i64 0, .int .i64 2] from (k46_mkM _ _ _ (⟨0, 2⟩ : S46) )) (Reps.c2 (show Kd.M k46 _ _ _ (⟨2, 1⟩ : S46) [.int .i64 2, .int .i64 1] from (k46_mkM _ _ _ (⟨2, 1⟩ : S46) )) (Reps.none _ _)))); intro v11 w55 ho56 hb hg_ hnew_; clear hg_ hnew_; (first | rw [← Y1.out] at ho56 | (simp only [Int.reduceToNat] at ho56; rw [← Y1.out] at ho56)); replace P1 := a_ (Kd.N_elder' (hN_ P1.out) (Kd.R_base ho56) hb); replace P2 := a_ (Kd.N_elder' (hN_ P2.out) (Kd.R_base ho56) hb); replace P4 := a_ (Kd.N_elder' (hN_ P4.out) (Kd.R_base ho56) hb); replace P5 := a_ (Kd.N_elder' (hN_ P5.out) (Kd.R_base ho56) hb); replace P7 := a_ (Kd.N_elder' (hN_ P7.out) (Kd.R_base ho56) hb); replace P8 := a_ (Kd.N_elder' (hN_ P8.out) (Kd.R_base ho56) hb); replace P10 := a_ (Kd.N_elder' (hN_ P10.out) (Kd.R_base ho56) hb); have P11 := a_ (Kd.R_lower (Kd.R_new' (Kd.R_new' (Kd.R_new' (Kd.R_new' ho56 (Kd.R_lt (hR_ P0.out))) (Kd.R_lt (hR_ P3.out))) (Kd.R_lt (hR_ P6.out))) (Kd.R_lt (hR_ P9.out))) (below_size hC_)); replace P0 := a_ (Kd.R_elder' (hR_ P0.out) (Kd.R_base ho56) hb); replace P3 := a_ (Kd.R_elder' (hR_ P3.out) (Kd.R_base ho56) hb); replace P6 := a_ (Kd.R_elder' (hR_ P6.out) (Kd.R_base ho56) hb); replace P9 := a_ (Kd.R_elder' (hR_ P9.out) (Kd.R_base ho56) hb); replace B0 := a_ (bB_ B0.out hb); replace B2 := a_ (bB_ B2.out hb); replace B4 := a_ (bB_ B4.out hb); replace B1 := a_ (bB_ B1.out hb); replace HB := a_ (below_step hC_ hb); clear hb ho56; obtain ⟨a0, o0, e11⟩ := Kd.R_slice P11.out; subst e11; obtain ⟨a2, o2, e12⟩ := Kd.N_slice P10.out; subst e12) | ((with_reducible refine gate_dst (N := 8) rfl ?_); refine boxE_ 8 #[.slice none 0 0, .int .i64 0, .slice none 0 0] 25 ?_; intro g0 hg w0 hbox hb; replace P1 := a_ (Kd.N_below (Kd.N_elderB (hN_ P1.out) g0 (Nat.le_of_eq hg.symm)) hb); replace P2 := a_ (Kd.N_below (Kd.N_elderB (hN_ P2.out) g0 (Nat.le_of_eq hg.symm)) hb); replace P0 := a_ (Kd.R_below (hR_ P0.out) hb); replace P4 := a_ (Kd.N_below (Kd.N_elderB (hN_ P4.out) g0 (Nat.le_of_eq hg.symm)) hb); replace P3 := a_ (Kd.R_below (hR_ P3.out) hb); replace P5 := a_ (Kd.N_below (Kd.N_elderB (hN_ P5.out) g0 (Nat.le_of_eq hg.symm)) hb); replace P7 := a_ (Kd.N_below (Kd.N_elderB (hN_ P7.out) g0 (Nat.le_of_eq hg.symm)) hb); replace P6 := a_ (Kd.R_below (hR_ P6.out) hb); replace P8 := a_ (Kd.N_below (Kd.N_elderB (hN_ P8.out) g0 (Nat.le_of_eq hg.symm)) hb); replace P9 := a_ (Kd.R_below (hR_ P9.out) hb); replace P10 := a_ (Kd.N_below (Kd.N_elderB (hN_ P10.out) g0 (Nat.le_of_eq hg.symm)) hb); replace P11 := a_ (Kd.R_below (hR_ P11.out) hb); have B3 := a_ (hbox); have E4 := a_ ((gE_ hg : w.heap.size ≤ g0)); replace HB := a_ (below_step hC_ hb); have N6 := a_ ((bL_ B0.out hg : g2 ≠ g0)); have N16 := a_ ((bG_ B0.out hg : g0 ≠ g2)); replace B0 := a_ (bB_ B0.out hb); have N7 := a_ ((bL_ B2.out hg : g4 ≠ g0)); have N17 := a_ ((bG_ B2.out hg : g0 ≠ g4)); replace B2 := a_ (bB_ B2.out hb); have N8 := a_ ((bL_ B4.out hg : g3 ≠ g0)); have N18 := a_ ((bG_ B4.out hg : g0 ≠ g3)); replace B4 := a_ (bB_ B4.out hb); have N9 := a_ ((bL_ B1.out hg : g1 ≠ g0)); have N19 := a_ ((bG_ B1.out hg : g0 ≠ g1)); replace B1 := a_ (bB_ B1.out hb); clear hb hbox hg; have m6 := N16.out; have n6 := N6.out; have m7 := N17.out; have n7 := N7.out; have m8 := N18.out; have n8 := N8.out; have m9 := N19.out; have n9 := N9.out; obtain ⟨z12, z13, z14, f12, f13, f14⟩ := bx3_ B3.out))
 have n0_ : Aside0 (Kd.N k57 57 (((w0.setCell ⟨g0, 0, none⟩ (.slice a2 t1.length o2)).setCell ⟨g0, 1, none⟩ (.int .i64 0)).setCell ⟨g0, 2, none⟩ (.slice a0 y0.length o0)) w.heap.size (fun k_ => some k_ ≠ (.slice a3 t2.length o3 : Value).ownBlock ∧ some k_ ≠ (.slice a1 t0.length o1 : Value).ownBlock ∧ some k_ ≠ (.slice a5 t4.length o5 : Value).ownBlock ∧ some k_ ≠ (.slice a4 t3.length o4 : Value).ownBlock ∧ some k_ ≠ (.slice a11 t10.length o11 : Value).ownBlock ∧ some k_ ≠ (.slice a8 t9.length o8 : Value).ownBlock ∧ some k_ ≠ (.slice a6 t5.length o6 : Value).ownBlock ∧ some k_ ≠ (.slice a10 t7.length o10 : Value).ownBlock ∧ some k_ ≠ (.slice a7 y1.length o7 : Value).ownBlock ∧ some k_ ≠ (.slice a2 t1.length o2 : Value).ownBlock ∧ some k_ ≠ (.slice a0 y0.length o0 : Value).ownBlock ∧ k_ ≠ g2 ∧ k_ ≠ g4 ∧ k_ ≠ g3 ∧ k_ ≠ g1 ∧ k_ ≠ g0) (.slice a9 t8.length o9) t8) := ⟨by (with_reducible repeat (first | apply Kd.N_alloc | apply Kd.N_drewN | apply Kd.N_drew)); exact Kd.N_mono (nF_ (nF_ (nF_ (Kd.N_mono P1.out (fun k_ hk => (⟨hk, hk.2⟩ : _ ∧ k_ ≠ g0)))))) (fun _ hk => ⟨hk.1.1.1.1.1.1.1.1.1.1.1.1.1.1.1.1.2, ⟨hk.1.1.1.1.1.1.1.1.1.1.1.1.1.1.1.2, ⟨hk.1.1.1.1.1.1.1.1.1.1.1.1.1.2, ⟨hk.1.1.1.1.1.1.1.1.1.1.1.1.2, ⟨hk.1.1.1.1.1.1.1.1.1.1.2, ⟨hk.1.1.1.1.1.1.1.1.1.2, ⟨hk.1.1.1.1.1.1.1.1.2, ⟨hk.1.1.1.1.1.1.2, ⟨hk.1.1.1.1.1.2, ⟨hk.1.1.1.2, ⟨hk.1.1.2, ⟨hk.1.1.1.1.1.1.1.1.1.1.1.1.1.1.2, ⟨hk.1.1.1.1.1.1.1.1.1.1.1.2, ⟨hk.1.1.1.1.1.1.1.2, ⟨hk.1.1.1.1.2, hk.1.2⟩⟩⟩⟩⟩⟩⟩⟩⟩⟩⟩⟩⟩⟩⟩)⟩
 have n1_ : Aside0 (Kd.N k57 57 (((w0.setCell ⟨g0, 0, none⟩ (.slice a2 t1.length o2)).setCell ⟨g0, 1, none⟩ (.int .i64 0)).setCell ⟨g0, 2, none⟩ (.slice a0 y0.length o0)) w.heap.size (fun k_ => some k_ ≠ (.slice a9 t8.length o9 : Value).ownBlock ∧ some k_ ≠ (.slice a1 t0.length o1 : Value).ownBlock ∧ some k_ ≠ (.slice a5 t4.length o5 : Value).ownBlock ∧ some k_ ≠ (.slice a4 t3.length o4 : Value).ownBlock ∧ some k_ ≠ (.slice a11 t10.length o11 : Value).ownBlock ∧ some k_ ≠ (.slice a8 t9.length o8 : Value).ownBlock ∧ some k_ ≠ (.slice a6 t5.length o6 : Value).ownBlock ∧ some k_ ≠ (.slice a10 t7.length o10 : Value).ownBlock ∧ some k_ ≠ (.slice a7 y1.length o7 : Value).ownBlock ∧ some k_ ≠ (.slice a2 t1.length o2 : Value).ownBlock ∧ some k_ ≠ (.slice a0 y0.length o0 : Value).ownBlock ∧ k_ ≠ g2 ∧ k_ ≠ g4 ∧ k_ ≠ g3 ∧ k_ ≠ g1 ∧ k_ ≠ g0) (.slice a3 t2.length o3) t2) := ⟨by (with_reducible repeat (first | apply Kd.N_alloc | apply Kd.N_drewN | apply Kd.N_drew)); exact Kd.N_mono (nF_ (nF_ (nF_ (Kd.N_mono P2.out (fun k_ hk => (⟨hk, hk.2⟩ : _ ∧ k_ ≠ g0)))))) (fun _ hk => ⟨hk.1.1.1.1.1.1.1.1.1.1.1.1.1.1.1.2, ⟨hk.1.1.1.1.1.1.1.1.1.1.1.1.1.1.1.1, ⟨hk.1.1.1.1.1.1.1.1.1.1.1.1.1.2, ⟨hk.1.1.1.1.1.1.1.1.1.1.1.1.2, ⟨hk.1.1.1.1.1.1.1.1.1.1.2, ⟨hk.1.1.1.1.1.1.1.1.1.2, ⟨hk.1.1.1.1.1.1.1.1.2, ⟨hk.1.1.1.1.1.1.2, ⟨hk.1.1.1.1.1.2, ⟨hk.1.1.1.2, ⟨hk.1.1.2, ⟨hk.1.1.1.1.1.1.1.1.1.1.1.1.1.1.2, ⟨hk.1.1.1.1.1.1.1.1.1.1.1.2, ⟨hk.1.1.1.1.1.1.1.2, ⟨hk.1.1.1.1.2, hk.1.2⟩⟩⟩⟩⟩⟩⟩⟩⟩⟩⟩⟩⟩⟩⟩)⟩
 have n2_ : Aside0 (Kd.R k46 46 (((w0.setCell ⟨g0, 0, none⟩ (.slice a2 t1.length o2)).setCell ⟨g0, 1, none⟩ (.int .i64 0)).setCell ⟨g0, 2, none⟩ (.slice a0 y0.length o0)) w.heap.size (fun k_ => some k_ ≠ (.slice a4 t3.length o4 : Value).ownBlock ∧ some k_ ≠ (.slice a6 t5.length o6 : Value).ownBlock ∧ some k_ ≠ (.slice a7 y1.length o7 : Value).ownBlock ∧ some k_ ≠ (.slice a0 y0.length o0 : Value).ownBlock) (.slice a1 t0.length o1) t0) := ⟨by (with_reducible repeat (first | apply Kd.R_alloc | apply Kd.R_drewN | apply Kd.R_drew)); exact Kd.R_mono (rF_ (rF_ (rF_ (Kd.R_types P0.out B3.out (by decide))))) (fun _ hk => ⟨hk.1.1.1.1.2, ⟨hk.1.1.1.2, ⟨hk.1.1.2, hk.1.2⟩⟩⟩)⟩
 have n3_ : Aside0 (Kd.N k57 57 (((w0.setCell ⟨g0, 0, none⟩ (.slice a2 t1.length o2)).setCell ⟨g0, 1, none⟩ (.int .i64 0)).setCell ⟨g0, 2, none⟩ (.slice a0 y0.length o0)) w.heap.size (fun k_ => some k_ ≠ (.slice a9 t8.length o9 : Value).ownBlock ∧ some k_ ≠ (.slice a3 t2.length o3 : Value).ownBlock ∧ some k_ ≠ (.slice a1 t0.length o1 : Value).ownBlock ∧ some k_ ≠ (.slice a4 t3.length o4 : Value).ownBlock ∧ some k_ ≠ (.slice a11 t10.length o11 : Value).ownBlock ∧ some k_ ≠ (.slice a8 t9.length o8 : Value).ownBlock ∧ some k_ ≠ (.slice a6 t5.length o6 : Value).ownBlock ∧ some k_ ≠ (.slice a10 t7.length o10 : Value).ownBlock ∧ some k_ ≠ (.slice a7 y1.length o7 : Value).ownBlock ∧ some k_ ≠ (.slice a2 t1.length o2 : Value).ownBlock ∧ some k_ ≠ (.slice a0 y0.length o0 : Value).ownBlock ∧ k_ ≠ g2 ∧ k_ ≠ g4 ∧ k_ ≠ g3 ∧ k_ ≠ g1 ∧ k_ ≠ g0) (.slice a5 t4.length o5) t4) := ⟨by (with_reducible repeat (first | apply Kd.N_alloc | apply Kd.N_drewN | apply Kd.N_drew)); exact Kd.N_mono (nF_ (nF_ (nF_ (Kd.N_mono P4.out (fun k_ hk => (⟨hk, hk.2⟩ : _ ∧ k_ ≠ g0)))))) (fun _ hk => ⟨hk.1.1.1.1.1.1.1.1.1.1.1.1.2.1, ⟨hk.1.1.1.1.1.1.1.1.1.1.1.1.2.2.1, ⟨hk.1.1.1.1.1.1.1.1.1.1.1.1.2.2.2.1, ⟨hk.1.1.1.1.1.1.1.1.1.1.1.1.1, ⟨hk.1.1.1.1.1.1.1.1.1.1.2, ⟨hk.1.1.1.1.1.1.1.1.1.2, ⟨hk.1.1.1.1.1.1.1.1.2, ⟨hk.1.1.1.1.1.1.2, ⟨hk.1.1.1.1.1.2, ⟨hk.1.1.1.2, ⟨hk.1.1.2, ⟨hk.1.1.1.1.1.1.1.1.1.1.1.1.2.2.2.2, ⟨hk.1.1.1.1.1.1.1.1.1.1.1.2, ⟨hk.1.1.1.1.1.1.1.2, ⟨hk.1.1.1.1.2, hk.1.2⟩⟩⟩⟩⟩⟩⟩⟩⟩⟩⟩⟩⟩⟩⟩)⟩
 have n4_ : Aside0 (Kd.R k46 46 (((w0.setCell ⟨g0, 0, none⟩ (.slice a2 t1.length o2)).setCell ⟨g0, 1, none⟩ (.int .i64 0)).setCell ⟨g0, 2, none⟩ (.slice a0 y0.length o0)) w.heap.size (fun k_ => some k_ ≠ (.slice a1 t0.length o1 : Value).ownBlock ∧ some k_ ≠ (.slice a6 t5.length o6 : Value).ownBlock ∧ some k_ ≠ (.slice a7 y1.length o7 : Value).ownBlock ∧ some k_ ≠ (.slice a0 y0.length o0 : Value).ownBlock) (.slice a4 t3.length o4) t3) := ⟨by (with_reducible repeat (first | apply Kd.R_alloc | apply Kd.R_drewN | apply Kd.R_drew)); exact Kd.R_mono (rF_ (rF_ (rF_ (Kd.R_types P3.out B3.out (by decide))))) (fun _ hk => ⟨hk.1.1.1.1.2, ⟨hk.1.1.1.2, ⟨hk.1.1.2, hk.1.2⟩⟩⟩)⟩
 have n5_ : Aside0 (Kd.N k57 57 (((w0.setCell ⟨g0, 0, none⟩ (.slice a2 t1.length o2)).setCell ⟨g0, 1, none⟩ (.int .i64 0)).setCell ⟨g0, 2, none⟩ (.slice a0 y0.length o0)) w.heap.size (fun k_ => some k_ ≠ (.slice a9 t8.length o9 : Value).ownBlock ∧ some k_ ≠ (.slice a3 t2.length o3 : Value).ownBlock ∧ some k_ ≠ (.slice a1 t0.length o1 : Value).ownBlock ∧ some k_ ≠ (.slice a5 t4.length o5 : Value).ownBlock ∧ some k_ ≠ (.slice a4 t3.length o4 : Value).ownBlock ∧ some k_ ≠ (.slice a8 t9.length o8 : Value).ownBlock ∧ some k_ ≠ (.slice a6 t5.length o6 : Value).ownBlock ∧ some k_ ≠ (.slice a10 t7.length o10 : Value).ownBlock ∧ some k_ ≠ (.slice a7 y1.length o7 : Value).ownBlock ∧ some k_ ≠ (.slice a2 t1.length o2 : Value).ownBlock ∧ some k_ ≠ (.slice a0 y0.length o0 : Value).ownBlock ∧ k_ ≠ g2 ∧ k_ ≠ g4 ∧ k_ ≠ g3 ∧ k_ ≠ g1 ∧ k_ ≠ g0) (.slice a11 t10.length o11) t10) := ⟨by (with_reducible repeat (first | apply Kd.N_alloc | apply Kd.N_drewN | apply Kd.N_drew)); exact Kd.N_mono (nF_ (nF_ (nF_ (Kd.N_mono P5.out (fun k_ hk => (⟨hk, hk.2⟩ : _ ∧ k_ ≠ g0)))))) (fun _ hk => ⟨hk.1.1.1.1.1.1.1.1.1.1.1, ⟨hk.1.1.1.1.1.1.1.1.1.1.2.1, ⟨hk.1.1.1.1.1.1.1.1.1.1.2.2.1, ⟨hk.1.1.1.1.1.1.1.1.1.1.2.2.2.1, ⟨hk.1.1.1.1.1.1.1.1.1.1.2.2.2.2.1, ⟨hk.1.1.1.1.1.1.1.1.1.2, ⟨hk.1.1.1.1.1.1.1.1.2, ⟨hk.1.1.1.1.1.1.2, ⟨hk.1.1.1.1.1.2, ⟨hk.1.1.1.2, ⟨hk.1.1.2, ⟨hk.1.1.1.1.1.1.1.1.1.1.2.2.2.2.2.1, ⟨hk.1.1.1.1.1.1.1.1.1.1.2.2.2.2.2.2, ⟨hk.1.1.1.1.1.1.1.2, ⟨hk.1.1.1.1.2, hk.1.2⟩⟩⟩⟩⟩⟩⟩⟩⟩⟩⟩⟩⟩⟩⟩)⟩
 have n6_ : Aside0 (Kd.N k57 57 (((w0.setCell ⟨g0, 0, none⟩ (.slice a2 t1.length o2)).setCell ⟨g0, 1, none⟩ (.int .i64 0)).setCell ⟨g0, 2, none⟩ (.slice a0 y0.length o0)) w.heap.size (fun k_ => some k_ ≠ (.slice a9 t8.length o9 : Value).ownBlock ∧ some k_ ≠ (.slice a3 t2.length o3 : Value).ownBlock ∧ some k_ ≠ (.slice a1 t0.length o1 : Value).ownBlock ∧ some k_ ≠ (.slice a5 t4.length o5 : Value).ownBlock ∧ some k_ ≠ (.slice a4 t3.length o4 : Value).ownBlock ∧ some k_ ≠ (.slice a11 t10.length o11 : Value).ownBlock ∧ some k_ ≠ (.slice a6 t5.length o6 : Value).ownBlock ∧ some k_ ≠ (.slice a10 t7.length o10 : Value).ownBlock ∧ some k_ ≠ (.slice a7 y1.length o7 : Value).ownBlock ∧ some k_ ≠ (.slice a2 t1.length o2 : Value).ownBlock ∧ some k_ ≠ (.slice a0 y0.length o0 : Value).ownBlock ∧ k_ ≠ g2 ∧ k_ ≠ g4 ∧ k_ ≠ g3 ∧ k_ ≠ g1 ∧ k_ ≠ g0) (.slice a8 t9.length o8) t9) := ⟨by (with_reducible repeat (first | apply Kd.N_alloc | apply Kd.N_drewN | apply Kd.N_drew)); exact Kd.N_mono (nF_ (nF_ (nF_ (Kd.N_mono P7.out (fun k_ hk => (⟨hk, hk.2⟩ : _ ∧ k_ ≠ g0)))))) (fun _ hk => ⟨hk.1.1.1.1.1.1.1.1.2.1, ⟨hk.1.1.1.1.1.1.1.1.2.2.1, ⟨hk.1.1.1.1.1.1.1.1.2.2.2.1, ⟨hk.1.1.1.1.1.1.1.1.2.2.2.2.1, ⟨hk.1.1.1.1.1.1.1.1.2.2.2.2.2.1, ⟨hk.1.1.1.1.1.1.1.1.2.2.2.2.2.2.1, ⟨hk.1.1.1.1.1.1.1.1.1, ⟨hk.1.1.1.1.1.1.2, ⟨hk.1.1.1.1.1.2, ⟨hk.1.1.1.2, ⟨hk.1.1.2, ⟨hk.1.1.1.1.1.1.1.1.2.2.2.2.2.2.2.1, ⟨hk.1.1.1.1.1.1.1.1.2.2.2.2.2.2.2.2, ⟨hk.1.1.1.1.1.1.1.2, ⟨hk.1.1.1.1.2, hk.1.2⟩⟩⟩⟩⟩⟩⟩⟩⟩⟩⟩⟩⟩⟩⟩)⟩
 have n7_ : Aside0 (Kd.R k46 46 (((w0.setCell ⟨g0, 0, none⟩ (.slice a2 t1.length o2)).setCell ⟨g0, 1, none⟩ (.int .i64 0)).setCell ⟨g0, 2, none⟩ (.slice a0 y0.length o0)) w.heap.size (fun k_ => some k_ ≠ (.slice a1 t0.length o1 : Value).ownBlock ∧ some k_ ≠ (.slice a4 t3.length o4 : Value).ownBlock ∧ some k_ ≠ (.slice a7 y1.length o7 : Value).ownBlock ∧ some k_ ≠ (.slice a0 y0.length o0 : Value).ownBlock) (.slice a6 t5.length o6) t5) := ⟨by (with_reducible repeat (first | apply Kd.R_alloc | apply Kd.R_drewN | apply Kd.R_drew)); exact Kd.R_mono (rF_ (rF_ (rF_ (Kd.R_types P6.out B3.out (by decide))))) (fun _ hk => ⟨hk.1.1.1.1.2, ⟨hk.1.1.1.2, ⟨hk.1.1.2, hk.1.2⟩⟩⟩)⟩
 have n8_ : Aside0 (Kd.N k57 57 (((w0.setCell ⟨g0, 0, none⟩ (.slice a2 t1.length o2)).setCell ⟨g0, 1, none⟩ (.int .i64 0)).setCell ⟨g0, 2, none⟩ (.slice a0 y0.length o0)) w.heap.size (fun k_ => some k_ ≠ (.slice a9 t8.length o9 : Value).ownBlock ∧ some k_ ≠ (.slice a3 t2.length o3 : Value).ownBlock ∧ some k_ ≠ (.slice a1 t0.length o1 : Value).ownBlock ∧ some k_ ≠ (.slice a5 t4.length o5 : Value).ownBlock ∧ some k_ ≠ (.slice a4 t3.length o4 : Value).ownBlock ∧ some k_ ≠ (.slice a11 t10.length o11 : Value).ownBlock ∧ some k_ ≠ (.slice a8 t9.length o8 : Value).ownBlock ∧ some k_ ≠ (.slice a6 t5.length o6 : Value).ownBlock ∧ some k_ ≠ (.slice a7 y1.length o7 : Value).ownBlock ∧ some k_ ≠ (.slice a2 t1.length o2 : Value).ownBlock ∧ some k_ ≠ (.slice a0 y0.length o0 : Value).ownBlock ∧ k_ ≠ g2 ∧ k_ ≠ g4 ∧ k_ ≠ g3 ∧ k_ ≠ g1 ∧ k_ ≠ g0) (.slice a10 t7.length o10) t7) := ⟨by (with_reducible repeat (first | apply Kd.N_alloc | apply Kd.N_drewN | apply Kd.N_drew)); exact Kd.N_mono (nF_ (nF_ (nF_ (Kd.N_mono P8.out (fun k_ hk => (⟨hk, hk.2⟩ : _ ∧ k_ ≠ g0)))))) (fun _ hk => ⟨hk.1.1.1.1.1.1.1, ⟨hk.1.1.1.1.1.1.2.1, ⟨hk.1.1.1.1.1.1.2.2.1, ⟨hk.1.1.1.1.1.1.2.2.2.1, ⟨hk.1.1.1.1.1.1.2.2.2.2.1, ⟨hk.1.1.1.1.1.1.2.2.2.2.2.1, ⟨hk.1.1.1.1.1.1.2.2.2.2.2.2.1, ⟨hk.1.1.1.1.1.1.2.2.2.2.2.2.2.1, ⟨hk.1.1.1.1.1.2, ⟨hk.1.1.1.2, ⟨hk.1.1.2, ⟨hk.1.1.1.1.1.1.2.2.2.2.2.2.2.2.1, ⟨hk.1.1.1.1.1.1.2.2.2.2.2.2.2.2.2.1, ⟨hk.1.1.1.1.1.1.2.2.2.2.2.2.2.2.2.2, ⟨hk.1.1.1.1.2, hk.1.2⟩⟩⟩⟩⟩⟩⟩⟩⟩⟩⟩⟩⟩⟩⟩)⟩
 have n9_ : Aside0 (Kd.R k46 46 (((w0.setCell ⟨g0, 0, none⟩ (.slice a2 t1.length o2)).setCell ⟨g0, 1, none⟩ (.int .i64 0)).setCell ⟨g0, 2, none⟩ (.slice a0 y0.length o0)) w.heap.size (fun k_ => some k_ ≠ (.slice a1 t0.length o1 : Value).ownBlock ∧ some k_ ≠ (.slice a4 t3.length o4 : Value).ownBlock ∧ some k_ ≠ (.slice a6 t5.length o6 : Value).ownBlock ∧ some k_ ≠ (.slice a0 y0.length o0 : Value).ownBlock) (.slice a7 y1.length o7) y1) := ⟨by (with_reducible repeat (first | apply Kd.R_alloc | apply Kd.R_drewN | apply Kd.R_drew)); exact Kd.R_mono (rF_ (rF_ (rF_ (Kd.R_types P9.out B3.out (by decide))))) (fun _ hk => ⟨hk.1.1.1.1.2, ⟨hk.1.1.1.2, ⟨hk.1.1.2, hk.1.2⟩⟩⟩)⟩
 have n10_ : Aside0 (Kd.N k57 57 (((w0.setCell ⟨g0, 0, none⟩ (.slice a2 t1.length o2)).setCell ⟨g0, 1, none⟩ (.int .i64 0)).setCell ⟨g0, 2, none⟩ (.slice a0 y0.length o0)) w.heap.size (fun k_ => some k_ ≠ (.slice a9 t8.length o9 : Value).ownBlock ∧ some k_ ≠ (.slice a3 t2.length o3 : Value).ownBlock ∧ some k_ ≠ (.slice a1 t0.length o1 : Value).ownBlock ∧ some k_ ≠ (.slice a5 t4.length o5 : Value).ownBlock ∧ some k_ ≠ (.slice a4 t3.length o4 : Value).ownBlock ∧ some k_ ≠ (.slice a11 t10.length o11 : Value).ownBlock ∧ some k_ ≠ (.slice a8 t9.length o8 : Value).ownBlock ∧ some k_ ≠ (.slice a6 t5.length o6 : Value).ownBlock ∧ some k_ ≠ (.slice a10 t7.length o10 : Value).ownBlock ∧ some k_ ≠ (.slice a7 y1.length o7 : Value).ownBlock ∧ some k_ ≠ (.slice a0 y0.length o0 : Value).ownBlock ∧ k_ ≠ g2 ∧ k_ ≠ g4 ∧ k_ ≠ g3 ∧ k_ ≠ g1 ∧ k_ ≠ g0) (.slice a2 t1.length o2) t1) := ⟨by (with_reducible repeat (first | apply Kd.N_alloc | apply Kd.N_drewN | apply Kd.N_drew)); exact Kd.N_mono (nF_ (nF_ (nF_ (Kd.N_mono P10.out (fun k_ hk => (⟨hk, hk.2⟩ : _ ∧ k_ ≠ g0)))))) (fun _ hk => ⟨hk.1.1.1.1, ⟨hk.1.1.1.2.1, ⟨hk.1.1.1.2.2.1, ⟨hk.1.1.1.2.2.2.1, ⟨hk.1.1.1.2.2.2.2.1, ⟨hk.1.1.1.2.2.2.2.2.1, ⟨hk.1.1.1.2.2.2.2.2.2.1, ⟨hk.1.1.1.2.2.2.2.2.2.2.1, ⟨hk.1.1.1.2.2.2.2.2.2.2.2.1, ⟨hk.1.1.1.2.2.2.2.2.2.2.2.2.1, ⟨hk.1.1.2, ⟨hk.1.1.1.2.2.2.2.2.2.2.2.2.2.1, ⟨hk.1.1.1.2.2.2.2.2.2.2.2.2.2.2.1, ⟨hk.1.1.1.2.2.2.2.2.2.2.2.2.2.2.2.1, ⟨hk.1.1.1.2.2.2.2.2.2.2.2.2.2.2.2.2, hk.1.2⟩⟩⟩⟩⟩⟩⟩⟩⟩⟩⟩⟩⟩⟩⟩)⟩
 have n11_ : Aside0 (Kd.R k46 46 (((w0.setCell ⟨g0, 0, none⟩ (.slice a2 t1.length o2)).setCell ⟨g0, 1, none⟩ (.int .i64 0)).setCell ⟨g0, 2, none⟩ (.slice a0 y0.length o0)) w.heap.size (fun k_ => some k_ ≠ (.slice a1 t0.length o1 : Value).ownBlock ∧ some k_ ≠ (.slice a4 t3.length o4 : Value).ownBlock ∧ some k_ ≠ (.slice a6 t5.length o6 : Value).ownBlock ∧ some k_ ≠ (.slice a7 y1.length o7 : Value).ownBlock) (.slice a0 y0.length o0) y0) := ⟨by (with_reducible repeat (first | apply Kd.R_alloc | apply Kd.R_drewN | apply Kd.R_drew)); exact Kd.R_mono (rF_ (rF_ (rF_ (Kd.R_types P11.out B3.out (by decide))))) (fun _ hk => ⟨hk.1.1.1.1.2, ⟨hk.1.1.1.2, ⟨hk.1.1.2, hk.1.2⟩⟩⟩)⟩
 have n12_ : Aside0 ((((w0.setCell ⟨g0, 0, none⟩ (.slice a2 t1.length o2)).setCell ⟨g0, 1, none⟩ (.int .i64 0)).setCell ⟨g0, 2, none⟩ (.slice a0 y0.length o0)).heap[g2]? = some (.cells #[.slice a3 t2.length o3, .int .i64 t6, .slice a1 t0.length o1] 25 (0, 0))) := ⟨(bF_ (bF_ (bF_ (hK_ B0.out) N6.out) N6.out) N6.out)⟩
 have n13_ : Aside0 ((((w0.setCell ⟨g0, 0, none⟩ (.slice a2 t1.length o2)).setCell ⟨g0, 1, none⟩ (.int .i64 0)).setCell ⟨g0, 2, none⟩ (.slice a0 y0.length o0)).heap[g4]? = some (.cells #[.slice a5 t4.length o5, .int .i64 t11, .slice a4 t3.length o4] 25 (0, 0))) := ⟨(bF_ (bF_ (bF_ (hK_ B2.out) N7.out) N7.out) N7.out)⟩
 have n14_ : Aside0 ((((w0.setCell ⟨g0, 0, none⟩ (.slice a2 t1.length o2)).setCell ⟨g0, 1, none⟩ (.int .i64 0)).setCell ⟨g0, 2, none⟩ (.slice a0 y0.length o0)).heap[g3]? = some (.cells #[.slice a8 t9.length o8, .int .i64 t15, .slice a6 t5.length o6] 25 (0, 0))) := ⟨(bF_ (bF_ (bF_ (hK_ B4.out) N8.out) N8.out) N8.out)⟩
 have n15_ : Aside0 ((((w0.setCell ⟨g0, 0, none⟩ (.slice a2 t1.length o2)).setCell ⟨g0, 1, none⟩ (.int .i64 0)).setCell ⟨g0, 2, none⟩ (.slice a0 y0.length o0)).heap[g1]? = some (.cells #[.slice a10 t7.length o10, .int .i64 0, .slice a7 y1.length o7] 25 (0, 0))) := ⟨(bF_ (bF_ (bF_ (hK_ B1.out) N9.out) N9.out) N9.out)⟩
 have n16_ : Aside0 ((((w0.setCell ⟨g0, 0, none⟩ (.slice a2 t1.length o2)).setCell ⟨g0, 1, none⟩ (.int .i64 0)).setCell ⟨g0, 2, none⟩ (.slice a0 y0.length o0)).heap[g0]? = some (.cells #[.slice a2 t1.length o2, .int .i64 0, .slice a0 y0.length o0] 25 (0, 0))) := ⟨(bP_ (bP_ (bP_ (hK_ B3.out))))⟩
 have n17_ : Aside0 (Below w.heap.size w (((w0.setCell ⟨g0, 0, none⟩ (.slice a2 t1.length o2)).setCell ⟨g0, 1, none⟩ (.int .i64 0)).setCell ⟨g0, 2, none⟩ (.slice a0 y0.length o0))) := ⟨hC_⟩
 (try clear P1)
 (try clear P2)
 (try clear P0)
 (try clear P4)
 (try clear P3)
 (try clear P5)
 (try clear P7)
 (try clear P6)
 (try clear P8)
 (try clear P9)
 (try clear P10)
 (try clear P11)
 (try clear B0)
 (try clear B2)
 (try clear B4)
 (try clear B1)
 (try clear B3)
 (try clear HB)
 generalize (((w0.setCell ⟨g0, 0, none⟩ (.slice a2 t1.length o2)).setCell ⟨g0, 1, none⟩ (.int .i64 0)).setCell ⟨g0, 2, none⟩ (.slice a0 y0.length o0)) = w1 at n0_ n1_ n2_ n3_ n4_ n5_ n6_ n7_ n8_ n9_ n10_ n11_ n12_ n13_ n14_ n15_ n16_ n17_ ⊢
 have P1 := n0_
 have P2 := n1_
 have P0 := n2_
 have P4 := n3_
 have P3 := n4_
 have P5 := n5_
 have P7 := n6_
 have P6 := n7_
 have P8 := n8_
 have P9 := n9_
 have P10 := n10_
 have P11 := n11_
 have B0 := n12_
 have B2 := n13_
 have B4 := n14_
 have B1 := n15_
 have B3 := n16_
 have HB := n17_
 clear n0_ n1_ n2_ n3_ n4_ n5_ n6_ n7_ n8_ n9_ n10_ n11_ n12_ n13_ n14_ n15_ n16_ n17_
 replace P1 := a_ (Kd.N_drew P1.out)
 replace P2 := a_ (Kd.N_drew P2.out)
 replace P0 := a_ (Kd.R_drew P0.out)
 replace P4 := a_ (Kd.N_drew P4.out)
 replace P3 := a_ (Kd.R_drew P3.out)
 replace P5 := a_ (Kd.N_drew P5.out)
 replace P7 := a_ (Kd.N_drew P7.out)
 replace P6 := a_ (Kd.R_drew P6.out)
 replace P8 := a_ (Kd.N_drew P8.out)
 replace P9 := a_ (Kd.R_drew P9.out)
 replace P10 := a_ (Kd.N_drew P10.out)
 replace P11 := a_ (Kd.R_drew P11.out)
 replace B0 := a_ (blk_drew B0.out)
 replace B2 := a_ (blk_drew B2.out)
 replace B4 := a_ (blk_drew B4.out)
 replace B1 := a_ (blk_drew B1.out)
 replace B3 := a_ (blk_drew B3.out)
 replace HB := a_ (below_drew1 HB.out)
 refine start_ (n := 33) (S := fun w' => w'.cell? ⟨g2, 0, none⟩ = some (.slice a3 t2.length o3) ∧ w'.cell? ⟨g2, 1, none⟩ = some (.int .i64 t6) ∧ w'.cell? ⟨g2, 2, none⟩ = some (.slice a1 t0.length o1) ∧ w'.cell? ⟨g1, 0, none⟩ = some (.slice a10 t7.length o10) ∧ w'.cell? ⟨g1, 1, none⟩ = some (.int .i64 0) ∧ w'.cell? ⟨g1, 2, none⟩ = some (.slice a7 y1.length o7) ∧ w'.cell? ⟨g0, 0, none⟩ = some (.slice a2 t1.length o2) ∧ w'.cell? ⟨g0, 1, none⟩ = some (.int .i64 0) ∧ w'.cell? ⟨g0, 2, none⟩ = some (.slice a0 y0.length o0)) (ds := []) #[false, false, false, false, false, false, false, false, false, false, false, false, false, false, false, false, false, false, false, false, false, false, false, false, false, false, false, false, false, false, false, false, false] (by kernel_rfl) rfl rfl ⟨(blk_cell B0.out 0).trans rfl, (blk_cell B0.out 1).trans rfl, (blk_cell B0.out 2).trans rfl, (blk_cell B1.out 0).trans rfl, (blk_cell B1.out 1).trans rfl, (blk_cell B1.out 2).trans rfl, (blk_cell B3.out 0).trans rfl, (blk_cell B3.out 1).trans rfl, (blk_cell B3.out 2).trans rfl⟩ (fun hHeld => ?_); refine with_tabW sleuthlaw21_awake.tab6 sleuthlaw21_awake.bits6 (fun HT_ HW_ => ?_)
 generalize w1.drew = w66 at P1 P2 P0 P4 P3 P5 P7 P6 P8 P9 P10 P11 B0 B2 B4 B1 B3 HB hHeld ⊢
 refine tB_ 0 33 HT_.out HW_.out hHeld ?_
 refine one_ (i := 1) (N := some 34) #[true, true, false, false, false, false, false, false, false, false, false, false, false, false, false, false, false, false, false, false, false, false, false, false, false, false, false, false, false, false, false, false, false] rfl rfl (one_of HT_.out (by kernel_rfl)) (by decide) (fun K hK => ?_)
 refine goes_ Tryz.func27 (by kernel_rfl) rfl #[] (by rfl) rfl rfl hL_ ?_
 with_reducible refine (sleuthlaw21_some.calls  t16 _ A8.out).mono ?_
 rintro e w67 ⟨v12, rfl, ho0, hb⟩
 refine ⟨_, rfl, ?_⟩
 have P12 := a_ (Kd.N_lower (Kd.N_mono (ok' := fun k_ => some k_ ≠ (.slice a9 t8.length o9 : Value).ownBlock ∧ some k_ ≠ (.slice a3 t2.length o3 : Value).ownBlock ∧ some k_ ≠ (.slice a1 t0.length o1 : Value).ownBlock ∧ some k_ ≠ (.slice a5 t4.length o5 : Value).ownBlock ∧ some k_ ≠ (.slice a4 t3.length o4 : Value).ownBlock ∧ some k_ ≠ (.slice a11 t10.length o11 : Value).ownBlock ∧ some k_ ≠ (.slice a8 t9.length o8 : Value).ownBlock ∧ some k_ ≠ (.slice a6 t5.length o6 : Value).ownBlock ∧ some k_ ≠ (.slice a10 t7.length o10 : Value).ownBlock ∧ some k_ ≠ (.slice a7 y1.length o7 : Value).ownBlock ∧ some k_ ≠ (.slice a2 t1.length o2 : Value).ownBlock ∧ some k_ ≠ (.slice a0 y0.length o0 : Value).ownBlock ∧ k_ ≠ g2 ∧ k_ ≠ g4 ∧ k_ ≠ g3 ∧ k_ ≠ g1 ∧ k_ ≠ g0) ho0 (fun k_ hk_ => ⟨(Kd.fresh' (Kd.N_lt (hN_ P1.out)) k_ hk_), (Kd.fresh' (Kd.N_lt (hN_ P2.out)) k_ hk_), (Kd.fresh' (Kd.R_lt (hR_ P0.out)) k_ hk_), (Kd.fresh' (Kd.N_lt (hN_ P4.out)) k_ hk_), (Kd.fresh' (Kd.R_lt (hR_ P3.out)) k_ hk_), (Kd.fresh' (Kd.N_lt (hN_ P5.out)) k_ hk_), (Kd.fresh' (Kd.N_lt (hN_ P7.out)) k_ hk_), (Kd.fresh' (Kd.R_lt (hR_ P6.out)) k_ hk_), (Kd.fresh' (Kd.N_lt (hN_ P8.out)) k_ hk_), (Kd.fresh' (Kd.R_lt (hR_ P9.out)) k_ hk_), (Kd.fresh' (Kd.N_lt (hN_ P10.out)) k_ hk_), (Kd.fresh' (Kd.R_lt (hR_ P11.out)) k_ hk_), (Kd.freshB (g := g2) (o := .cells #[.slice a3 t2.length o3, .int .i64 t6, .slice a1 t0.length o1] 25 (0, 0)) (hK_ B0.out) k_ hk_), (Kd.freshB (g := g4) (o := .cells #[.slice a5 t4.length o5, .int .i64 t11, .slice a4 t3.length o4] 25 (0, 0)) (hK_ B2.out) k_ hk_), (Kd.freshB (g := g3) (o := .cells #[.slice a8 t9.length o8, .int .i64 t15, .slice a6 t5.length o6] 25 (0, 0)) (hK_ B4.out) k_ hk_), (Kd.freshB (g := g1) (o := .cells #[.slice a10 t7.length o10, .int .i64 0, .slice a7 y1.length o7] 25 (0, 0)) (hK_ B1.out) k_ hk_), (Kd.freshB (g := g0) (o := .cells #[.slice a2 t1.length o2, .int .i64 0, .slice a0 y0.length o0] 25 (0, 0)) (hK_ B3.out) k_ hk_)⟩)) (below_size hC_))
 replace P1 := a_ (Kd.N_elder' (hN_ P1.out) (Kd.N_base ho0) hb)
 replace P2 := a_ (Kd.N_elder' (hN_ P2.out) (Kd.N_base ho0) hb)
 replace P0 := a_ (Kd.R_below (hR_ P0.out) hb)
 replace P4 := a_ (Kd.N_elder' (hN_ P4.out) (Kd.N_base ho0) hb)
 replace P3 := a_ (Kd.R_below (hR_ P3.out) hb)
 replace P5 := a_ (Kd.N_elder' (hN_ P5.out) (Kd.N_base ho0) hb)
 replace P7 := a_ (Kd.N_elder' (hN_ P7.out) (Kd.N_base ho0) hb)
 replace P6 := a_ (Kd.R_below (hR_ P6.out) hb)
 replace P8 := a_ (Kd.N_elder' (hN_ P8.out) (Kd.N_base ho0) hb)
 replace P9 := a_ (Kd.R_below (hR_ P9.out) hb)
 replace P10 := a_ (Kd.N_elder' (hN_ P10.out) (Kd.N_base ho0) hb)
 replace P11 := a_ (Kd.R_below (hR_ P11.out) hb)
 replace B0 := a_ (bB_ B0.out hb)
 replace B2 := a_ (bB_ B2.out hb)
 replace B4 := a_ (bB_ B4.out hb)
 replace B1 := a_ (bB_ B1.out hb)
 replace B3 := a_ (bB_ B3.out hb)
 replace HB := a_ (below_step hC_ hb)
 (try clear hb)
 (try clear hb2)
 (try clear hk)
 (try clear hi)
 (try clear ho0)
 obtain ⟨a12, o12, e0⟩ := Kd.N_slice P12.out
 (first | subst e0 | (injection e0 with f1_ f2_ f3_; have f4_ := f1_.symm; have f5_ := f3_.symm; clear f1_ f2_ f3_; subst f4_; subst f5_))
 refine hK.out _ _ ⟨(blk_cell B0.out 0).trans rfl, (blk_cell B0.out 1).trans rfl, (blk_cell B0.out 2).trans rfl, (blk_cell B1.out 0).trans rfl, (blk_cell B1.out 1).trans rfl, (blk_cell B1.out 2).trans rfl, (blk_cell B3.out 0).trans rfl, (blk_cell B3.out 1).trans rfl, (blk_cell B3.out 2).trans rfl⟩ (fun hHeld => ?_)
 clear hK K
 refine norm_ (a' := ?_) ?_ ?_
 rotate_left
 · show Act.put _ (some 34) _ = _
   simp only [Act.put, List.setIfInBounds_toArray, List.set_cons_zero, List.set_cons_succ, i64_w, i32_w]
   rfl
 refine pB_ 2 35 HT_.out ?_
 refine one_ (i := 3) (N := some 36) #[true, true, true, true, false, false, false, false, false, false, false, false, false, false, false, false, false, false, false, false, false, false, false, false, false, false, false, false, false, false, false, false, false] rfl rfl (one_of HT_.out (by kernel_rfl)) (by decide) (fun K hK => ?_)
 refine goes_ Tryz.func7 (by kernel_rfl) rfl #[.agg #[.slice a3 t2.length o3, .int .i64 t6, .slice a1 t0.length o1], .agg #[.slice a12 t16.length o12, .int .i64 1, .slice none 0 0]] (by rfl) rfl rfl hL_ ?_
 refine (sleuthlaw0_SameSession.calls k _ _ t2 t6 _ _ t0 _ _ t16 1 _ _ ([] : List (S46)) true _ ?s1 ?s2 ?s3 ?s4 ?s5 ?s6 ?s7 ?s8 A9.out).mono ?_
 (case s1 => repeat (first | exact (Kd.N_reads' P2.out).2.2 | (with_reducible refine Kd.C_alloc ?_ _) | (with_reducible refine Kd.C_drewN ?_ _) | (with_reducible refine Kd.C_drew ?_)))
 (case s2 => exact (Kd.N_reads' P2.out).2.1)
 (case s3 => exact cC_ (Kd.R_reads' P0.out).2.2)
 (case s4 => exact (Kd.R_reads' P0.out).2.1)
 (case s5 => repeat (first | exact (Kd.N_reads' P12.out).2.2 | (with_reducible refine Kd.C_alloc ?_ _) | (with_reducible refine Kd.C_drewN ?_ _) | (with_reducible refine Kd.C_drew ?_)))
 (case s6 => exact (Kd.N_reads' P12.out).2.1)
 (case s7 => exact Kd.C_nil _ _)
 (case s8 => exact Nat.le_refl _)
 rintro e w69 ⟨rfl, hb⟩
 refine ⟨_, rfl, ?_⟩
 replace P1 := a_ (Kd.N_below (hN_ P1.out) hb)
 replace P2 := a_ (Kd.N_below (hN_ P2.out) hb)
 replace P0 := a_ (Kd.R_below (hR_ P0.out) hb)
 replace P4 := a_ (Kd.N_below (hN_ P4.out) hb)
 replace P3 := a_ (Kd.R_below (hR_ P3.out) hb)
 replace P5 := a_ (Kd.N_below (hN_ P5.out) hb)
 replace P7 := a_ (Kd.N_below (hN_ P7.out) hb)
 replace P6 := a_ (Kd.R_below (hR_ P6.out) hb)
 replace P8 := a_ (Kd.N_below (hN_ P8.out) hb)
 replace P9 := a_ (Kd.R_below (hR_ P9.out) hb)
 replace P10 := a_ (Kd.N_below (hN_ P10.out) hb)
 replace P11 := a_ (Kd.R_below (hR_ P11.out) hb)
 replace P12 := a_ (Kd.N_below (hN_ P12.out) hb)
 replace B0 := a_ (bB_ B0.out hb)
 replace B2 := a_ (bB_ B2.out hb)
 replace B4 := a_ (bB_ B4.out hb)
 replace B1 := a_ (bB_ B1.out hb)
 replace B3 := a_ (bB_ B3.out hb)
 replace HB := a_ (below_step hC_ hb)
 (try clear hb)
 (try clear hb2)
 (try clear hk)
 (try clear hi)
 refine hK.out _ _ ⟨(blk_cell B0.out 0).trans rfl, (blk_cell B0.out 1).trans rfl, (blk_cell B0.out 2).trans rfl, (blk_cell B1.out 0).trans rfl, (blk_cell B1.out 1).trans rfl, (blk_cell B1.out 2).trans rfl, (blk_cell B3.out 0).trans rfl, (blk_cell B3.out 1).trans rfl, (blk_cell B3.out 2).trans rfl⟩ (fun hHeld => ?_)
 clear hK K
 refine norm_ (a' := ?_) ?_ ?_
 rotate_left
 · show Act.put _ (some 36) _ = _
   simp only [Act.put, List.setIfInBounds_toArray, List.set_cons_zero, List.set_cons_succ, i64_w, i32_w]
   rfl
 refine pB_ 4 37 HT_.out ?_
 refine pB_ 5 38 HT_.out ?_
 refine one_ (i := 6) (N := some 39) #[true, true, true, true, true, true, true, false, false, false, false, false, false, false, false, false, false, false, false, false, false, false, false, false, false, false, false, false, false, false, false, false, false] rfl rfl (one_of HT_.out (by kernel_rfl)) (by decide) (fun K hK => ?_)
 refine goes_ Tryz.func8 (by kernel_rfl) rfl #[.int .i64 t17] (by rfl) rfl rfl hL_ ?_
 with_reducible refine (sleuthlaw0_Num.calls t17 t12 _ A11.out).mono ?_
 rintro e w' ⟨rfl, ⟨nd, rfl⟩⟩
 refine ⟨_, rfl, ?_⟩
 refine hK.out _ _ ⟨(blk_cell B0.out 0).trans rfl, (blk_cell B0.out 1).trans rfl, (blk_cell B0.out 2).trans rfl, (blk_cell B1.out 0).trans rfl, (blk_cell B1.out 1).trans rfl, (blk_cell B1.out 2).trans rfl, (blk_cell B3.out 0).trans rfl, (blk_cell B3.out 1).trans rfl, (blk_cell B3.out 2).trans rfl⟩ (fun hHeld => ?_)
 clear hK K
 refine norm_ (a' := ?_) ?_ ?_
 rotate_left
 · show Act.put _ (some 39) _ = _
   simp only [Act.put, List.setIfInBounds_toArray, List.set_cons_zero, List.set_cons_succ, i64_w, i32_w]
   rfl
 refine pB_ 7 40 HT_.out ?_
 refine pB_ 8 41 HT_.out ?_
 refine pB_ 9 42 HT_.out ?_
 refine pB_ 10 43 HT_.out ?_
 refine one_ (i := 11) (N := some 44) #[true, true, true, true, true, true, true, true, true, true, true, true, false, false, false, false, false, false, false, false, false, false, false, false, false, false, false, false, false, false, false, false, false] rfl rfl (one_of HT_.out (by kernel_rfl)) (by decide) (fun K hK => ?_)
 refine goes_ Tryz.func8 (by kernel_rfl) rfl #[.int .i64 t18] (by rfl) rfl rfl hL_ ?_
 with_reducible refine (sleuthlaw0_Num.calls t18 t13 _ A13.out).mono ?_
 rintro e w' ⟨rfl, ⟨nd, rfl⟩⟩
 refine ⟨_, rfl, ?_⟩
 refine hK.out _ _ ⟨(blk_cell B0.out 0).trans rfl, (blk_cell B0.out 1).trans rfl, (blk_cell B0.out 2).trans rfl, (blk_cell B1.out 0).trans rfl, (blk_cell B1.out 1).trans rfl, (blk_cell B1.out 2).trans rfl, (blk_cell B3.out 0).trans rfl, (blk_cell B3.out 1).trans rfl, (blk_cell B3.out 2).trans rfl⟩ (fun hHeld => ?_)
 clear hK K
 refine norm_ (a' := ?_) ?_ ?_
 rotate_left
 · show Act.put _ (some 44) _ = _
   simp only [Act.put, List.setIfInBounds_toArray, List.set_cons_zero, List.set_cons_succ, i64_w, i32_w]
   rfl
 refine pB_ 12 45 HT_.out ?_
 refine pB_ 13 46 HT_.out ?_
 refine pB_ 14 47 HT_.out ?_
 refine pB_ 15 48 HT_.out ?_
 refine one_ (i := 16) (N := some 49) #[true, true, true, true, true, true, true, true, true, true, true, true, true, true, true, true, true, false, false, false, false, false, false, false, false, false, false, false, false, false, false, false, false] rfl rfl (one_of HT_.out (by kernel_rfl)) (by decide) (fun K hK => ?_)
 refine goes_ Tryz.func8 (by kernel_rfl) rfl #[.int .i64 t19] (by rfl) rfl rfl hL_ ?_
 with_reducible refine (sleuthlaw0_Num.calls t19 t14 _ A15.out).mono ?_
 rintro e w' ⟨rfl, ⟨nd, rfl⟩⟩
 refine ⟨_, rfl, ?_⟩
 refine hK.out _ _ ⟨(blk_cell B0.out 0).trans rfl, (blk_cell B0.out 1).trans rfl, (blk_cell B0.out 2).trans rfl, (blk_cell B1.out 0).trans rfl, (blk_cell B1.out 1).trans rfl, (blk_cell B1.out 2).trans rfl, (blk_cell B3.out 0).trans rfl, (blk_cell B3.out 1).trans rfl, (blk_cell B3.out 2).trans rfl⟩ (fun hHeld => ?_)
 clear hK K
 refine norm_ (a' := ?_) ?_ ?_
 rotate_left
 · show Act.put _ (some 49) _ = _
   simp only [Act.put, List.setIfInBounds_toArray, List.set_cons_zero, List.set_cons_succ, i64_w, i32_w]
   rfl
 refine pB_ 17 50 HT_.out ?_
 refine pB_ 18 51 HT_.out ?_
 refine pB_ 19 52 HT_.out ?_
 refine tB_ 20 53 HT_.out HW_.out hHeld ?_
 refine one_ (i := 21) (N := some 54) #[true, true, true, true, true, true, true, true, true, true, true, true, true, true, true, true, true, true, true, true, true, true, false, false, false, false, false, false, false, false, false, false, false] rfl rfl (one_of HT_.out (by kernel_rfl)) (by decide) (fun K hK => ?_)
 refine goes_ Tryz.func9 (by kernel_rfl) rfl #[.agg #[.slice a3 t2.length o3, .int .i64 t6, .slice a1 t0.length o1]] (by rfl) rfl rfl hL_ ?_
 with_reducible refine (session_May.calls k _ _ t2 t6 _ _ t0 true _ ?s1 ?s2 ?s3 ?s4 A17.out (by first | exact hG | exact GOK.below hG hC_)).mono ?_
 (case s1 => repeat (first | exact (Kd.N_reads' P2.out).2.2 | (with_reducible refine Kd.C_alloc ?_ _) | (with_reducible refine Kd.C_drewN ?_ _) | (with_reducible refine Kd.C_drew ?_)))
 (case s2 => exact (Kd.N_reads' P2.out).2.1)
 (case s3 => exact cC_ (Kd.R_reads' P0.out).2.2)
 (case s4 => exact (Kd.R_reads' P0.out).2.1)
 rintro e w70 ⟨rfl, hb⟩
 refine ⟨_, rfl, ?_⟩
 replace P1 := a_ (Kd.N_below (hN_ P1.out) hb)
 replace P2 := a_ (Kd.N_below (hN_ P2.out) hb)
 replace P0 := a_ (Kd.R_below (hR_ P0.out) hb)
 replace P4 := a_ (Kd.N_below (hN_ P4.out) hb)
 replace P3 := a_ (Kd.R_below (hR_ P3.out) hb)
 replace P5 := a_ (Kd.N_below (hN_ P5.out) hb)
 replace P7 := a_ (Kd.N_below (hN_ P7.out) hb)
 replace P6 := a_ (Kd.R_below (hR_ P6.out) hb)
 replace P8 := a_ (Kd.N_below (hN_ P8.out) hb)
 replace P9 := a_ (Kd.R_below (hR_ P9.out) hb)
 replace P10 := a_ (Kd.N_below (hN_ P10.out) hb)
 replace P11 := a_ (Kd.R_below (hR_ P11.out) hb)
 replace P12 := a_ (Kd.N_below (hN_ P12.out) hb)
 replace B0 := a_ (bB_ B0.out hb)
 replace B2 := a_ (bB_ B2.out hb)
 replace B4 := a_ (bB_ B4.out hb)
 replace B1 := a_ (bB_ B1.out hb)
 replace B3 := a_ (bB_ B3.out hb)
 replace HB := a_ (below_step hC_ hb)
 (try clear hb)
 (try clear hb2)
 (try clear hk)
 (try clear hi)
 refine hK.out _ _ ⟨(blk_cell B0.out 0).trans rfl, (blk_cell B0.out 1).trans rfl, (blk_cell B0.out 2).trans rfl, (blk_cell B1.out 0).trans rfl, (blk_cell B1.out 1).trans rfl, (blk_cell B1.out 2).trans rfl, (blk_cell B3.out 0).trans rfl, (blk_cell B3.out 1).trans rfl, (blk_cell B3.out 2).trans rfl⟩ (fun hHeld => ?_)
 clear hK K
 refine norm_ (a' := ?_) ?_ ?_
 rotate_left
 · show Act.put _ (some 54) _ = _
   simp only [Act.put, List.setIfInBounds_toArray, List.set_cons_zero, List.set_cons_succ, i64_w, i32_w]
   rfl
 refine pB_ 22 55 HT_.out ?_
 refine pB_ 23 56 HT_.out ?_
 refine tB_ 24 57 HT_.out HW_.out hHeld ?_
 refine one_ (i := 25) (N := some 58) #[true, true, true, true, true, true, true, true, true, true, true, true, true, true, true, true, true, true, true, true, true, true, true, true, true, true, false, false, false, false, false, false, false] rfl rfl (one_of HT_.out (by kernel_rfl)) (by decide) (fun K hK => ?_)
 refine goes_ Tryz.func9 (by kernel_rfl) rfl #[.agg #[.slice a10 t7.length o10, .int .i64 0, .slice a7 y1.length o7]] (by rfl) rfl rfl hL_ ?_
 with_reducible refine (session_May.calls k _ _ t7 0 _ _ y1 true _ ?s1 ?s2 ?s3 ?s4 A19.out (by first | exact hG | exact GOK.below hG hC_)).mono ?_
 (case s1 => repeat (first | exact (Kd.N_reads' P8.out).2.2 | (with_reducible refine Kd.C_alloc ?_ _) | (with_reducible refine Kd.C_drewN ?_ _) | (with_reducible refine Kd.C_drew ?_)))
 (case s2 => exact (Kd.N_reads' P8.out).2.1)
 (case s3 => exact cC_ (Kd.R_reads' P9.out).2.2)
 (case s4 => exact (Kd.R_reads' P9.out).2.1)
 rintro e w71 ⟨rfl, hb⟩
 refine ⟨_, rfl, ?_⟩
 replace P1 := a_ (Kd.N_below (hN_ P1.out) hb)
 replace P2 := a_ (Kd.N_below (hN_ P2.out) hb)
 replace P0 := a_ (Kd.R_below (hR_ P0.out) hb)
 replace P4 := a_ (Kd.N_below (hN_ P4.out) hb)
 replace P3 := a_ (Kd.R_below (hR_ P3.out) hb)
 replace P5 := a_ (Kd.N_below (hN_ P5.out) hb)
 replace P7 := a_ (Kd.N_below (hN_ P7.out) hb)
 replace P6 := a_ (Kd.R_below (hR_ P6.out) hb)
 replace P8 := a_ (Kd.N_below (hN_ P8.out) hb)
 replace P9 := a_ (Kd.R_below (hR_ P9.out) hb)
 replace P10 := a_ (Kd.N_below (hN_ P10.out) hb)
 replace P11 := a_ (Kd.R_below (hR_ P11.out) hb)
 replace P12 := a_ (Kd.N_below (hN_ P12.out) hb)
 replace B0 := a_ (bB_ B0.out hb)
 replace B2 := a_ (bB_ B2.out hb)
 replace B4 := a_ (bB_ B4.out hb)
 replace B1 := a_ (bB_ B1.out hb)
 replace B3 := a_ (bB_ B3.out hb)
 replace HB := a_ (below_step hC_ hb)
 (try clear hb)
 (try clear hb2)
 (try clear hk)
 (try clear hi)
 refine hK.out _ _ ⟨(blk_cell B0.out 0).trans rfl, (blk_cell B0.out 1).trans rfl, (blk_cell B0.out 2).trans rfl, (blk_cell B1.out 0).trans rfl, (blk_cell B1.out 1).trans rfl, (blk_cell B1.out 2).trans rfl, (blk_cell B3.out 0).trans rfl, (blk_cell B3.out 1).trans rfl, (blk_cell B3.out 2).trans rfl⟩ (fun hHeld => ?_)
 clear hK K
 refine norm_ (a' := ?_) ?_ ?_
 rotate_left
 · show Act.put _ (some 58) _ = _
   simp only [Act.put, List.setIfInBounds_toArray, List.set_cons_zero, List.set_cons_succ, i64_w, i32_w]
   rfl
 refine pB_ 26 59 HT_.out ?_
 refine pB_ 27 60 HT_.out ?_
 refine tB_ 28 61 HT_.out HW_.out hHeld ?_
 refine one_ (i := 29) (N := some 62) #[true, true, true, true, true, true, true, true, true, true, true, true, true, true, true, true, true, true, true, true, true, true, true, true, true, true, true, true, true, true, false, false, false] rfl rfl (one_of HT_.out (by kernel_rfl)) (by decide) (fun K hK => ?_)
 refine goes_ Tryz.func9 (by kernel_rfl) rfl #[.agg #[.slice a2 t1.length o2, .int .i64 0, .slice a0 y0.length o0]] (by rfl) rfl rfl hL_ ?_
 with_reducible refine (session_May.calls k _ _ t1 0 _ _ y0 t23 _ ?s1 ?s2 ?s3 ?s4 A21.out (by first | exact hG | exact GOK.below hG hC_)).mono ?_
 (case s1 => repeat (first | exact (Kd.N_reads' P10.out).2.2 | (with_reducible refine Kd.C_alloc ?_ _) | (with_reducible refine Kd.C_drewN ?_ _) | (with_reducible refine Kd.C_drew ?_)))
 (case s2 => exact (Kd.N_reads' P10.out).2.1)
 (case s3 => exact cC_ (Kd.R_reads' P11.out).2.2)
 (case s4 => exact (Kd.R_reads' P11.out).2.1)
 rintro e w72 ⟨rfl, hb⟩
 refine ⟨_, rfl, ?_⟩
 replace P1 := a_ (Kd.N_below (hN_ P1.out) hb)
 replace P2 := a_ (Kd.N_below (hN_ P2.out) hb)
 replace P0 := a_ (Kd.R_below (hR_ P0.out) hb)
 replace P4 := a_ (Kd.N_below (hN_ P4.out) hb)
 replace P3 := a_ (Kd.R_below (hR_ P3.out) hb)
 replace P5 := a_ (Kd.N_below (hN_ P5.out) hb)
 replace P7 := a_ (Kd.N_below (hN_ P7.out) hb)
 replace P6 := a_ (Kd.R_below (hR_ P6.out) hb)
 replace P8 := a_ (Kd.N_below (hN_ P8.out) hb)
 replace P9 := a_ (Kd.R_below (hR_ P9.out) hb)
 replace P10 := a_ (Kd.N_below (hN_ P10.out) hb)
 replace P11 := a_ (Kd.R_below (hR_ P11.out) hb)
 replace P12 := a_ (Kd.N_below (hN_ P12.out) hb)
 replace B0 := a_ (bB_ B0.out hb)
 replace B2 := a_ (bB_ B2.out hb)
 replace B4 := a_ (bB_ B4.out hb)
 replace B1 := a_ (bB_ B1.out hb)
 replace B3 := a_ (bB_ B3.out hb)
 replace HB := a_ (below_step hC_ hb)
 (try clear hb)
 (try clear hb2)
 (try clear hk)
 (try clear hi)
 refine hK.out _ _ ⟨(blk_cell B0.out 0).trans rfl, (blk_cell B0.out 1).trans rfl, (blk_cell B0.out 2).trans rfl, (blk_cell B1.out 0).trans rfl, (blk_cell B1.out 1).trans rfl, (blk_cell B1.out 2).trans rfl, (blk_cell B3.out 0).trans rfl, (blk_cell B3.out 1).trans rfl, (blk_cell B3.out 2).trans rfl⟩ (fun hHeld => ?_)
 clear hK K
 refine norm_ (a' := ?_) ?_ ?_
 rotate_left
 · show Act.put _ (some 62) _ = _
   simp only [Act.put, List.setIfInBounds_toArray, List.set_cons_zero, List.set_cons_succ, i64_w, i32_w]
   rfl
 refine pB_ 30 63 HT_.out ?_
 refine pB_ 31 64 HT_.out ?_
 refine pB_ 32 0 HT_.out ?_
 refine done_ (done_of HT_.out (by kernel_rfl)) ?_
 try go_wp2
 go_ret
 exact ⟨hV_, hC_⟩
end Go.Proofs.YtijamgfpgdiigaaGreatDoor.G
end
section
namespace Go.Proofs.YtijamgfpgdiigaaGreatDoor.G
open Go.RowKit Go.Proofs.YtijamgfpgdiigaaGreatDoorW.PrintWords Go.Proofs.YtijamgfpgdiigaaGreatDoorW.PrintLast Go.Proofs.YtijamgfpgdiigaaGreatDoorW.PrintMore
set_option linter.unusedVariables false
set_option linter.unusedSimpArgs false
def sessSome : List Nd := [(⟨0, (-1), ([] : List ByteArray), (⟨#[57]⟩ : ByteArray)⟩ : Nd), (⟨1, 0, (([(⟨#[64, 55, 40, 95, 32, 52, 41]⟩ : ByteArray), (⟨#[53]⟩ : ByteArray)] : List ByteArray)), (⟨#[57]⟩ : ByteArray)⟩ : Nd), (⟨2, 0, ([] : List ByteArray), (⟨#[33]⟩ : ByteArray)⟩ : Nd), (⟨1, 1, (([(⟨#[49]⟩ : ByteArray), (⟨#[95]⟩ : ByteArray)] : List ByteArray)), (⟨#[95]⟩ : ByteArray)⟩ : Nd), (⟨1, 2, (([(⟨#[49]⟩ : ByteArray), (⟨#[95]⟩ : ByteArray)] : List ByteArray)), (⟨#[95]⟩ : ByteArray)⟩ : Nd)]
theorem sessSome_eq : sleuthlaw21_some.f = some sessSome := rfl
theorem sessSome_may : mayT sessSome = true := by kernel_rfl
theorem sessSome_ok : okN sessSome := ⟨by decide, by
  intro x hx
  have h : (sessSome.all fun x => decide (x.f2.length ≤ 8796093021952)) = true := by kernel_rfl
  exact of_decide_eq_true (List.all_eq_true.1 h x hx)⟩
theorem sessNil_ok : okN [] := ⟨by decide, fun x hx => by cases hx⟩
theorem sessAwake_ev : Ev (fun k => sleuthlaw21_awake.f k) true := by
  unfold sleuthlaw21_awake.f
  simp only [sessSome_eq, Option.bind_some]
  refine Ev.bind (new_ev sessSome sessSome_ok 1) (Ev.bind (new_ev [] sessNil_ok 0) (Ev.bind (new_ev sessSome sessSome_ok 2) ?_))
  have e1 : newF sessSome 1 = (sessSome, 1, [], 0) := by kernel_rfl
  have e2 : newF [] 0 = ([], 0, [], 2100) := by kernel_rfl
  have e3 : newF sessSome 2 = ([], 0, [], 2100) := by kernel_rfl
  rw [e1, e2, e3]
  refine Ev.bind (sameSession_ev sessSome sessSome_ok 1 [] (Nat.zero_le _)) ?_
  simp only [if_pos, sleuthlaw0_Num.f, Option.bind_some]
  refine Ev.bind (sessMay_ev sessSome 1 [] (Nat.zero_le _)) ?_
  have e4 : sessS sessSome 1 [] = true := by kernel_rfl
  have e5 : sessS sessSome 0 [⟨0, 2⟩, ⟨1, 1⟩] = true := by kernel_rfl
  have e6 : sessS sessSome 0 [⟨0, 2⟩, ⟨2, 1⟩] = false := by kernel_rfl
  rw [e4]
  simp only [if_pos]
  refine Ev.bind (sessMay_ev sessSome 0 [⟨0, 2⟩, ⟨1, 1⟩] (by decide)) ?_
  rw [e5]
  simp only [if_pos]
  refine Ev.bind (sessMay_ev sessSome 0 [⟨0, 2⟩, ⟨2, 1⟩] (by decide)) ?_
  rw [e6]
  exact Ev.now _
end Go.Proofs.YtijamgfpgdiigaaGreatDoor.G
end
