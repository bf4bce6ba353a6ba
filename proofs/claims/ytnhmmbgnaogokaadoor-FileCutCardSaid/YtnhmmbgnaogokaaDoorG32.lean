-- Laid by the session's own driver gp.py over the kit's printer. Not trusted: Lean checks it.
import Derived.Test.YtnhmmbgnaogokaaDoorU2
import Derived.Test.YtnhmmbgnaogokaaDoorG0
import Derived.Test.YtnhmmbgnaogokaaDoorU6
import Derived.Test.YtnhmmbgnaogokaaDoorU7
import Derived.Test.YtnhmmbgnaogokaaDoorU9
namespace Go.Proofs.YtnhmmbgnaogokaaDoor.G
open Go.RowKit Go.Proofs.YtnhmmbgnaogokaaDoorW.PrintWords Go.Proofs.YtnhmmbgnaogokaaDoorW.PrintLast Go.Proofs.YtnhmmbgnaogokaaDoorW.PrintMore
set_option maxHeartbeats 8000000
set_option maxRecDepth 100000
attribute [local go_sem] max2_int min2_int max_two min_two max_three min_three max_four min_four   -- for this text's walks alone
set_option linter.unusedVariables false
set_option linter.unusedSimpArgs false

def sleuthlaw17_FileCut.j0 : Nat → List (S37) → ByteArray → Int → List (S37) → Int → Bool → Option (Bool)
 | 0, _, _, _, _, _, _ => none
 | k + 1, x0, x5, x7, x8, x9, x61 => if x61 = true then (none) else (if (x8.length : Int) = (x0.length : Int) then (some (x9 == (x5.size : Int))) else (if 0 ≤ (wrap64 ((x8.length : Int) + 1)) then (if (wrap64 ((x8.length : Int) + 1)) ≤ (x0.length : Int) then ((file_Text.f k (x0.take ((wrap64 ((x8.length : Int) + 1)) : Int).toNat)).bind fun bt345 => ((sleuthlaw0_Num.f bt345.2).bind fun t347 => (if t347 = 0 then (if (bt345.1.size : Int) > x7 then (if (x8.length : Int) = 0 then (some true) else ((sleuthref12_TrailMay.f k x8).bind fun t348 => (some t348))) else (none)) else (none)))) else (none)) else (none)))
def sleuthlaw17_FileCut.f (k : Nat) (l0 : List (S37)) (a1 : Int) : Option (Bool) := (sleuthlaw17_awake.f k).bind fun t328 => (if t328 = true then ((file_Text.f k l0).bind fun bt329 => ((sleuthlaw0_Num.f bt329.2).bind fun t331 => (if t331 = 0 then (if (IntKind.u64.wrap (wrap64 ((bt329.1.size : Int) + 1))) = 0 then (none) else (if 0 ≤ (wrap64 (Int.tmod (IntKind.u64.wrap (a1)) (IntKind.u64.wrap (wrap64 ((bt329.1.size : Int) + 1))))) then (if (wrap64 (Int.tmod (IntKind.u64.wrap (a1)) (IntKind.u64.wrap (wrap64 ((bt329.1.size : Int) + 1))))) ≤ (bt329.1.size : Int) then ((file_Load.f k (bt329.1.extract 0 ((wrap64 (Int.tmod (IntKind.u64.wrap (a1)) (IntKind.u64.wrap (wrap64 ((bt329.1.size : Int) + 1))))) : Int).toNat)).bind fun bt332 => (if bt332.2 < 0 then (sleuthlaw17_FileCut.j0 k l0 bt329.1 (wrap64 (Int.tmod (IntKind.u64.wrap (a1)) (IntKind.u64.wrap (wrap64 ((bt329.1.size : Int) + 1))))) bt332.1 bt332.2 true) else (if bt332.2 > (wrap64 (Int.tmod (IntKind.u64.wrap (a1)) (IntKind.u64.wrap (wrap64 ((bt329.1.size : Int) + 1))))) then (sleuthlaw17_FileCut.j0 k l0 bt329.1 (wrap64 (Int.tmod (IntKind.u64.wrap (a1)) (IntKind.u64.wrap (wrap64 ((bt329.1.size : Int) + 1))))) bt332.1 bt332.2 true) else (if (bt332.1.length : Int) > (l0.length : Int) then (sleuthlaw17_FileCut.j0 k l0 bt329.1 (wrap64 (Int.tmod (IntKind.u64.wrap (a1)) (IntKind.u64.wrap (wrap64 ((bt329.1.size : Int) + 1))))) bt332.1 bt332.2 true) else (if 0 ≤ (bt332.1.length : Int) then (if (bt332.1.length : Int) ≤ (l0.length : Int) then ((sleuthlaw0_SameNodes.f k bt332.1 (l0.take ((bt332.1.length : Int) : Int).toNat)).bind fun t340 => (sleuthlaw17_FileCut.j0 k l0 bt329.1 (wrap64 (Int.tmod (IntKind.u64.wrap (a1)) (IntKind.u64.wrap (wrap64 ((bt329.1.size : Int) + 1))))) bt332.1 bt332.2 (!t340))) else (none)) else (none)))))) else (none)) else (none))) else (some (bt329.1.toList == ([] : List UInt8)))))) else (none))
theorem sleuthlaw17_FileCut.calls (k : Nat) (A0 : Option Addr) (c0 : Nat) (l0 : List (S37)) (a1 : Int) (r : Bool) (w : World) (hr0 : Kd.C k37 w A0 l0.length l0) (hc0 : l0.length ≤ c0) (h : sleuthlaw17_FileCut.f k l0 a1 = some r) (hG : GOK w) :
 Calls Tryd.prog 3 #[.slice A0 l0.length c0, .int .i64 a1] w fun e w' => e = .returned (.bool r) ∧ Below w.heap.size w w' := by
 have HR0 := a_ hr0
 have HC0 := a_ hc0
 clear hr0 hc0
 have HB := a_ (Below.refl w.heap.size w)
 have H := h; unfold sleuthlaw17_FileCut.f at H
 clear h
 replace H := Option.bind_eq_some_iff.mp H
 obtain ⟨t10, A30, H⟩ := H
 try dsimp only at H
 have A3 := a_ A30
 clear A30
 by_cases c4 : t10 = true
 case neg =>
  replace c4 := Bool.eq_false_iff.mpr c4
  subst c4
  rw [if_neg (show ¬ (false = true) by decide)] at H
  cases H
 subst c4
 rw [if_pos rfl] at H
 replace H := Option.bind_eq_some_iff.mp H
 obtain ⟨⟨t1, t5⟩, A50, H⟩ := H
 try dsimp only at H
 have A5 := a_ A50
 clear A50
 replace H := Option.bind_eq_some_iff.mp H
 obtain ⟨t4, A60, H⟩ := H
 try dsimp only at H
 have A6 := a_ A60
 clear A60
 by_cases c7 : t4 = 0
 case neg =>
  rw [if_neg c7] at H
  have c7b0 : (t4 == 0) = false := beq_eq_false_iff_ne.mpr c7
  have c7b1 : (t4 != 0) = true := bne_iff_ne.mpr c7
  obtain rfl := Option.some.inj H
  go_enter Tryd.func3, Tryd.ntmps3
  go_wp2_with (first | ((with_reducible refine gate_callee (f := 7) rfl ?_); refine goesL_ (some 12) rfl rfl Tryd.func7 (by kernel_rfl) rfl #[] rfl hL_ ?_; (with_reducible refine (sleuthlaw17_awake.calls k  true _ A3.out hG_).mono ?_); rintro e w0 ⟨rfl, hb⟩; refine ⟨_, rfl, ?_⟩; replace HB := a_ (below_step hB_ hb); (try clear hb); (try clear hb2); (try clear hk); (try clear hi)) | ((with_reducible refine gate_callee (f := 8) rfl ?_); refine goesL_ (some 16) rfl rfl Tryd.func8 (by kernel_rfl) rfl #[.slice A0 l0.length c0] rfl hL_ ?_; (with_reducible refine (file_Text.calls k _ _ l0 t1 t5 _ ?s1 ?s2 A5.out hG_).mono ?_); (case s1 => exact cB_ HR0.out); (case s2 => exact HC0.out); rintro e w1 ⟨rfl, hb⟩; refine ⟨_, rfl, ?_⟩; replace HB := a_ (below_step hB_ hb); (try clear hb); (try clear hb2); (try clear hk); (try clear hi)) | ((with_reducible refine gate_callee (f := 9) rfl ?_); refine goesL_ _ rfl rfl Tryd.func9 (by kernel_rfl) rfl #[.int .i64 t5] rfl hL_ ?_; (with_reducible refine (sleuthlaw0_Num.calls t5 t4 _ A6.out).mono ?_); rintro e w' ⟨rfl, ⟨nd, rfl⟩⟩; refine ⟨_, rfl, ?_⟩))
  go_ret
  exact ⟨hV_, hC_⟩
 rw [if_pos c7] at H
 have c7b0 : (t4 == 0) = true := beq_iff_eq.mpr c7
 have c7b1 : (t4 != 0) = false := bne_eq_false_iff_eq.mpr c7
 clear c7
 by_cases c8 : (IntKind.u64.wrap (wrap64 ((t1.size : Int) + 1))) = 0
 case pos =>
  rw [if_pos c8] at H
  exact absurd H (by simp)
 rw [if_neg c8] at H
 have c8b0 : ((IntKind.u64.wrap (wrap64 ((t1.size : Int) + 1))) == 0) = false := beq_eq_false_iff_ne.mpr c8
 have c8b1 : ((IntKind.u64.wrap (wrap64 ((t1.size : Int) + 1))) != 0) = true := bne_iff_ne.mpr c8
 (try (have c8b0w := c8b0; (rw [show wrap64 ((t1.size : Int) + 1) = ((t1.size : Int) + 1) from by unfold wrap64; omega] at c8b0w)))
 (try (have c8b1w := c8b1; (rw [show wrap64 ((t1.size : Int) + 1) = ((t1.size : Int) + 1) from by unfold wrap64; omega] at c8b1w)))
 obtain ⟨ji9, hji9⟩ : ∃ j_ : Int, (wrap64 (Int.tmod (IntKind.u64.wrap (a1)) (IntKind.u64.wrap (wrap64 ((t1.size : Int) + 1))))) = j_ := ⟨_, rfl⟩
 replace H : (if 0 ≤ (ji9) then (if (ji9) ≤ (t1.size : Int) then ((file_Load.f k (t1.extract 0 ((ji9) : Int).toNat)).bind fun bt332 => (if bt332.2 < 0 then (sleuthlaw17_FileCut.j0 k l0 t1 ji9 bt332.1 bt332.2 true) else (if bt332.2 > (ji9) then (sleuthlaw17_FileCut.j0 k l0 t1 ji9 bt332.1 bt332.2 true) else (if (bt332.1.length : Int) > (l0.length : Int) then (sleuthlaw17_FileCut.j0 k l0 t1 ji9 bt332.1 bt332.2 true) else (if 0 ≤ (bt332.1.length : Int) then (if (bt332.1.length : Int) ≤ (l0.length : Int) then ((sleuthlaw0_SameNodes.f k bt332.1 (l0.take ((bt332.1.length : Int) : Int).toNat)).bind fun t6 => (sleuthlaw17_FileCut.j0 k l0 t1 ji9 bt332.1 bt332.2 (!t6))) else (none)) else (none)))))) else (none)) else (none)) = some r := by first | (rw [hji9] at H; exact H) | (simp only [hji9] at H ⊢; exact H)
 (try rw [hji9] at A3)
 (try rw [hji9] at A5)
 (try rw [hji9] at A6)
 have hji9w : (IntKind.i64.wrap (Int.tmod (IntKind.u64.wrap (a1)) (IntKind.u64.wrap (wrap64 ((t1.size : Int) + 1))))) = ji9 := (i64_w _).trans hji9
 replace H := ifI_ H; obtain ⟨c10, H⟩ := H
 have c10b0 := eq_true c10
 have c10b1 : decide (0 ≤ (ji9)) = true := decide_eq_true c10
 clear c10
 replace H := ifI_ H; obtain ⟨c11, H⟩ := H
 have c11b0 := eq_true c11
 have c11b1 : decide ((ji9) ≤ (t1.size : Int)) = true := decide_eq_true c11
 clear c11
 replace H := Option.bind_eq_some_iff.mp H
 obtain ⟨⟨t0, t3⟩, A120, H⟩ := H
 try dsimp only at H
 have A12 := a_ A120
 clear A120
 have HC13 := a_ H
 clear H
 go_enter Tryd.func3, Tryd.ntmps3
 go_upto_region 8 with (first | ((with_reducible refine gate_callee (f := 7) rfl ?_); refine goesL_ (some 12) rfl rfl Tryd.func7 (by kernel_rfl) rfl #[] rfl hL_ ?_; (with_reducible refine (sleuthlaw17_awake.calls k  true _ A3.out hG_).mono ?_); rintro e w2 ⟨rfl, hb⟩; refine ⟨_, rfl, ?_⟩; replace HB := a_ (below_step hB_ hb); (try clear hb); (try clear hb2); (try clear hk); (try clear hi)) | ((with_reducible refine gate_callee (f := 8) rfl ?_); refine goesL_ (some 16) rfl rfl Tryd.func8 (by kernel_rfl) rfl #[.slice A0 l0.length c0] rfl hL_ ?_; (with_reducible refine (file_Text.calls k _ _ l0 t1 t5 _ ?s1 ?s2 A5.out hG_).mono ?_); (case s1 => exact cB_ HR0.out); (case s2 => exact HC0.out); rintro e w3 ⟨rfl, hb⟩; refine ⟨_, rfl, ?_⟩; replace HB := a_ (below_step hB_ hb); (try clear hb); (try clear hb2); (try clear hk); (try clear hi)) | ((with_reducible refine gate_callee (f := 9) rfl ?_); refine goesL_ _ rfl rfl Tryd.func9 (by kernel_rfl) rfl #[.int .i64 t5] rfl hL_ ?_; (with_reducible refine (sleuthlaw0_Num.calls t5 t4 _ A6.out).mono ?_); rintro e w' ⟨rfl, ⟨nd, rfl⟩⟩; refine ⟨_, rfl, ?_⟩) | ((with_reducible refine gate_callee (f := 10) rfl ?_); refine goesL_ (some 36) rfl rfl Tryd.func10 (by kernel_rfl) rfl #[.string (t1.extract 0 ((ji9) : Int).toNat)] rfl (by (try simp only [List.map_toArray, List.map_cons, List.map_nil]); first | done | (simp only [hji9]; rfl) | rfl | (simp only [List.length_drop, List.length_take]; rfl)) ?_; (with_reducible refine (file_Load.calls k (t1.extract 0 ((ji9) : Int).toNat) t0 t3 _ A12.out hG_).mono ?_); rintro e w4 ⟨v0, rfl, ho0, hb⟩; refine ⟨_, rfl, ?_⟩; have P0 := a_ (Kd.S_lower ho0 hS_); replace HB := a_ (below_step hB_ hb); (try clear hb); (try clear hb2); (try clear hk); (try clear hi); (try clear ho0)))
 (try simp only [Act.put, List.setIfInBounds_toArray, List.set_cons_zero, List.set_cons_succ])
 go_cut [61] (fun v1 wc => ∃ (kq : Nat) (x0 : Bool), v1 = .bool x0 ∧ Aside0 (sleuthlaw17_FileCut.j0 kq l0 t1 ji9 t0 t3 x0 = some r) ∧ Aside0 (kq ≤ k) ∧ Aside0 (Kd.S k37 37 wc w.heap.size (fun _ => True) v0 t0) ∧ Aside0 (Below w.heap.size w wc))
 case first =>
  have H := HC13.out
  clear HC13
  by_cases c17 : t3 < 0
  case pos =>
   rw [if_pos c17] at H
   have c17b0 : decide (t3 < 0) = true := decide_eq_true c17
   clear c17
   (first | rw [c17b0] | (simp only [i64_w, i32_w]; rw [c17b0]) | skip)
   have H' := a_ H
   clear H
   go_wp2
   go_meet
   case rel => exact ⟨_, (true), hW_, H', ⟨by first | omega | exact Nat.le_refl _⟩, ⟨by (with_reducible repeat (first | apply Kd.S_alloc | apply Kd.S_drewN | apply Kd.S_drew)); exact P0.out⟩, ⟨hC_⟩⟩
  rw [if_neg c17] at H
  have c17b0 : decide (t3 < 0) = false := decide_eq_false c17
  clear c17
  (first | rw [c17b0] | (simp only [i64_w, i32_w]; rw [c17b0]) | skip)
  by_cases c18 : t3 > (ji9)
  case pos =>
   rw [if_pos c18] at H
   have c18b0 : decide ((ji9) < t3) = true := decide_eq_true c18
   clear c18
   have H' := a_ H
   clear H
   go_wp2
   go_meet
   case rel => exact ⟨_, (true), hW_, H', ⟨by first | omega | exact Nat.le_refl _⟩, ⟨by (with_reducible repeat (first | apply Kd.S_alloc | apply Kd.S_drewN | apply Kd.S_drew)); exact P0.out⟩, ⟨hC_⟩⟩
  rw [if_neg c18] at H
  have c18b0 : decide ((ji9) < t3) = false := decide_eq_false c18
  clear c18
  by_cases c19 : (t0.length : Int) > (l0.length : Int)
  case pos =>
   rw [if_pos c19] at H
   have c19b0 : decide ((l0.length : Int) < (t0.length : Int)) = true := decide_eq_true c19
   have c19b1 : decide (l0.length < t0.length) = true := decide_eq_true (Int.ofNat_lt.mp c19)
   clear c19
   have H' := a_ H
   clear H
   obtain ⟨a0, o0, e0⟩ := Kd.S_slice P0.out
   subst e0
   go_wp2
   go_meet
   case rel => exact ⟨_, (true), hW_, H', ⟨by first | omega | exact Nat.le_refl _⟩, ⟨by (with_reducible repeat (first | apply Kd.S_alloc | apply Kd.S_drewN | apply Kd.S_drew)); exact P0.out⟩, ⟨hC_⟩⟩
  rw [if_neg c19] at H
  have c19b0 : decide ((l0.length : Int) < (t0.length : Int)) = false := decide_eq_false c19
  have c19b1 : decide (l0.length < t0.length) = false := decide_eq_false (fun h => c19 (Int.ofNat_lt.mpr h))
  clear c19
  replace H := ifI_ H; obtain ⟨c21, H⟩ := H
  have c21b0 := eq_true c21
  have c21b1 : decide (0 ≤ (t0.length : Int)) = true := decide_eq_true c21
  clear c21
  replace H := ifI_ H; obtain ⟨c22, H⟩ := H
  have c22b0 := eq_true c22
  have c22b1 : decide ((t0.length : Int) ≤ (l0.length : Int)) = true := decide_eq_true c22
  clear c22
  obtain ⟨y1, i0⟩ : ∃ y_ : List (S37), y_ = (l0.take ((t0.length : Int) : Int).toNat) := ⟨_, rfl⟩
  replace H : ((sleuthlaw0_SameNodes.f k t0 y1).bind fun t6 => (sleuthlaw17_FileCut.j0 k l0 t1 ji9 t0 t3 (!t6))) = some r := by first | (rw [i0]; with_reducible exact H) | (have H2_ := (Option.bind_some _ _).symm.trans H; rw [i0]; with_reducible exact H2_) | (have H2_ := (Option.bind_some _ _).symm.trans H; with_reducible exact H2_) | with_reducible exact H | (rw [i0]; exact H) | exact H
  have Y1 := a_ i0
  clear i0
  replace H := Option.bind_eq_some_iff.mp H
  obtain ⟨t6, A230, H⟩ := H
  try dsimp only at H
  have A23 := a_ A230
  clear A230
  have H' := a_ H
  clear H
  obtain ⟨a2, o1, e1⟩ := Kd.S_slice P0.out
  subst e1
  have q25 : ((t0.length : Int) : Int) ≤ ((l0.length : Int) : Int) := of_decide_eq_true hA_
  obtain ⟨i025, hi025, _, hsz25, _⟩ := info_parts info37
  have hroom25 : l0.length ≤ c0 := HC0.out
  have hC25 : Kd.C k37 _ A0 l0.length l0 := HR0.out
  have hcut25 := cut_to (P := Tryd.prog) 22 37 .i64 Tryd.underlying22 hi025 A0 l0.length c0 (t0.length : Int) (of_decide_eq_true hA_) q25 hroom25
  have hr25 := Kd.C_take (m := ((t0.length : Int) : Int).toNat) hC25 (by omega)
  have i2 : y1.length = ((t0.length : Int) : Int).toNat := (by rw [Y1.out, List.length_take]; omega)
  rw [← Y1.out] at hr25
  rw [← i2] at hcut25
  have HR339 := a_ hr25
  have HC339 := a_ (show y1.length ≤ c0 from by omega)
  clear hr25 hC25 hroom25 hi025 hsz25
  have KY25 := a_ i2
  clear i2
  replace q25 := eq_true q25
  go_wp2_with (first | (go_at_call 11; (with_reducible refine (sleuthlaw0_SameNodes.calls k _ _ t0 _ _ y1 t6 _ ?s1 ?s2 ?s3 ?s4 A23.out).mono ?_); (case s1 => repeat (first | exact (Kd.S_reads' P0.out).2.2 | (with_reducible refine Kd.C_alloc ?_ _) | (with_reducible refine Kd.C_drewN ?_ _) | (with_reducible refine Kd.C_drew ?_))); (case s2 => exact (Kd.S_reads' P0.out).2.1); (case s3 => exact cB_ HR339.out); (case s4 => exact HC339.out); rintro e w5 ⟨rfl, hb⟩; replace P0 := a_ (Kd.S_below (by (with_reducible repeat (first | apply Kd.S_alloc | apply Kd.S_drewN | apply Kd.S_drew)); exact P0.out) hb); replace HB := a_ (below_step hB_ hb); (try clear hb); (try clear hb2); (try clear hk); (try clear hi)))
  go_meet
  case rel => exact ⟨_, (!t6), hW_, H', ⟨by first | omega | exact Nat.le_refl _⟩, ⟨by (with_reducible repeat (first | apply Kd.S_alloc | apply Kd.S_drewN | apply Kd.S_drew)); exact P0.out⟩, ⟨hC_⟩⟩
 case rest =>
  clear HC13
  try clear c1
  try clear c2
  try clear p2
  try clear q2
  try clear c3
  try clear c4
  try clear p6
  try clear c7
  try clear c7b0
  try clear c7b1
  try clear c8
  try clear c8b0
  try clear c8b1
  try clear c9
  try clear c10
  try clear c10b0
  try clear c10b1
  try clear c11
  try clear c11b0
  try clear c11b1
  try clear c17
  try clear c17b0
  try clear c18
  try clear c18b0
  try clear c19
  try clear c19b0
  try clear c19b1
  try clear c21
  try clear c21b0
  try clear c21b1
  try clear c22
  try clear c22b0
  try clear c22b1
  try clear q25
  try clear hji9
  try clear hji9w
  try clear q25
  obtain ⟨kq, x0, rfl, HA, HJ12, O0, HB⟩ := hcut
  cases kq with
  | zero => exact absurd HA.out (by simp [sleuthlaw17_FileCut.j0])
  | succ kj12 =>
   have H := HA.out
   clear HA
   simp only [sleuthlaw17_FileCut.j0] at H
   by_cases c27 : x0 = true
   case pos =>
    subst c27
    rw [if_pos rfl] at H
    cases H
   replace c27 := Bool.eq_false_iff.mpr c27
   subst c27
   rw [if_neg (show ¬ (false = true) by decide)] at H
   by_cases c28 : (t0.length : Int) = (l0.length : Int)
   case pos =>
    rw [if_pos c28] at H
    have c28b0 : ((t0.length : Int) == (l0.length : Int)) = true := beq_iff_eq.mpr c28
    have c28b1 : ((t0.length : Int) != (l0.length : Int)) = false := bne_eq_false_iff_eq.mpr c28
    have c28b2 : (t0.length == l0.length) = true := by first | simpa using c28 | (simp at c28 ⊢; omega)
    clear c28
    obtain rfl := Option.some.inj H
    obtain ⟨a3, o2, e2⟩ := Kd.S_slice O0.out
    subst e2
    go_wp2
    go_ret
    exact ⟨by first | rfl | (simp [errW_none, errW_some] <;> rfl) | (simp only [← hji9]; first | rfl | (simp [errW_none, errW_some] <;> rfl)) | (simp [*, errW_none, errW_some] <;> rfl), hC_⟩
   rw [if_neg c28] at H
   have c28b0 : ((t0.length : Int) == (l0.length : Int)) = false := beq_eq_false_iff_ne.mpr c28
   have c28b1 : ((t0.length : Int) != (l0.length : Int)) = true := bne_iff_ne.mpr c28
   have c28b2 : (t0.length == l0.length) = false := by first | simpa using c28 | (simp at c28 ⊢; omega)
   obtain ⟨ji30, hji30⟩ : ∃ j_ : Int, (wrap64 ((t0.length : Int) + 1)) = j_ := ⟨_, rfl⟩
   replace H : (if 0 ≤ (ji30) then (if (ji30) ≤ (l0.length : Int) then ((file_Text.f kj12 (l0.take ((ji30) : Int).toNat)).bind fun bt345 => ((sleuthlaw0_Num.f bt345.2).bind fun t2 => (if t2 = 0 then (if (bt345.1.size : Int) > ji9 then (if (t0.length : Int) = 0 then (some true) else ((sleuthref12_TrailMay.f kj12 t0).bind fun t8 => (some t8))) else (none)) else (none)))) else (none)) else (none)) = some r := by first | (rw [hji30] at H; exact H) | (simp only [hji30] at H ⊢; exact H)
   have hji30w : (IntKind.i64.wrap ((t0.length : Int) + 1)) = ji30 := (i64_w _).trans hji30
   replace H := ifI_ H; obtain ⟨c31, H⟩ := H
   have c31b0 := eq_true c31
   have c31b1 : decide (0 ≤ (ji30)) = true := decide_eq_true c31
   clear c31
   replace H := ifI_ H; obtain ⟨c32, H⟩ := H
   have c32b0 := eq_true c32
   have c32b1 : decide ((ji30) ≤ (l0.length : Int)) = true := decide_eq_true c32
   clear c32
   obtain ⟨y0, i1⟩ : ∃ y_ : List (S37), y_ = (l0.take ((ji30) : Int).toNat) := ⟨_, rfl⟩
   replace H : ((file_Text.f kj12 y0).bind fun bt345 => ((sleuthlaw0_Num.f bt345.2).bind fun t2 => (if t2 = 0 then (if (bt345.1.size : Int) > ji9 then (if (t0.length : Int) = 0 then (some true) else ((sleuthref12_TrailMay.f kj12 t0).bind fun t8 => (some t8))) else (none)) else (none)))) = some r := by first | (rw [i1]; with_reducible exact H) | (have H2_ := (Option.bind_some _ _).symm.trans H; rw [i1]; with_reducible exact H2_) | (have H2_ := (Option.bind_some _ _).symm.trans H; with_reducible exact H2_) | with_reducible exact H | (rw [i1]; exact H) | exact H
   have Y0 := a_ i1
   clear i1
   replace H := Option.bind_eq_some_iff.mp H
   obtain ⟨⟨t9, t7⟩, A330, H⟩ := H
   try dsimp only at H
   have A33 := a_ A330
   clear A330
   replace H := Option.bind_eq_some_iff.mp H
   obtain ⟨t2, A340, H⟩ := H
   try dsimp only at H
   have A34 := a_ A340
   clear A340
   by_cases c35 : t2 = 0
   case neg =>
    rw [if_neg c35] at H
    have c35b0 : (t2 == 0) = false := beq_eq_false_iff_ne.mpr c35
    have c35b1 : (t2 != 0) = true := bne_iff_ne.mpr c35
    cases H
   rw [if_pos c35] at H
   have c35b0 : (t2 == 0) = true := beq_iff_eq.mpr c35
   have c35b1 : (t2 != 0) = false := bne_eq_false_iff_eq.mpr c35
   clear c35
   by_cases c36 : (t9.size : Int) > ji9
   case neg =>
    rw [if_neg c36] at H
    have c36b0 : decide (ji9 < (t9.size : Int)) = false := decide_eq_false c36
    clear c36
    cases H
   rw [if_pos c36] at H
   have c36b0 : decide (ji9 < (t9.size : Int)) = true := decide_eq_true c36
   clear c36
   by_cases c37 : (t0.length : Int) = 0
   case pos =>
    rw [if_pos c37] at H
    have c37b0 : ((t0.length : Int) == 0) = true := beq_iff_eq.mpr c37
    have c37b1 : ((t0.length : Int) != 0) = false := bne_eq_false_iff_eq.mpr c37
    clear c37
    obtain rfl := Option.some.inj H
    obtain ⟨a4, o3, e3⟩ := Kd.S_slice O0.out
    subst e3
    have q39 : ((ji30) : Int) ≤ ((l0.length : Int) : Int) := of_decide_eq_true hA_
    obtain ⟨i039, hi039, _, hsz39, _⟩ := info_parts info37
    have hroom39 : l0.length ≤ c0 := HC0.out
    have hC39 : Kd.C k37 _ A0 l0.length l0 := HR0.out
    have hcut39 := cut_to (P := Tryd.prog) 22 37 .i64 Tryd.underlying22 hi039 A0 l0.length c0 (ji30) (of_decide_eq_true hA_) q39 hroom39
    have hr39 := Kd.C_take (m := ((ji30) : Int).toNat) hC39 (by omega)
    have i3 : y0.length = ((ji30) : Int).toNat := (by rw [Y0.out, List.length_take]; omega)
    rw [← Y0.out] at hr39
    rw [← i3] at hcut39
    have HR344 := a_ hr39
    have HC344 := a_ (show y0.length ≤ c0 from by omega)
    clear hr39 hC39 hroom39 hi039 hsz39
    have KY39 := a_ i3
    clear i3
    replace q39 := eq_true q39
    go_wp2_with (first | ((with_reducible refine gate_callee (f := 8) rfl ?_); refine goesL_ (some 77) rfl rfl Tryd.func8 (by kernel_rfl) rfl #[.slice A0 y0.length c0] rfl hL_ ?_; (with_reducible refine (file_Text.calls kj12 _ _ y0 t9 t7 _ ?s1 ?s2 A33.out hG_).mono ?_); (case s1 => exact cB_ HR344.out); (case s2 => exact HC344.out); rintro e w6 ⟨rfl, hb⟩; refine ⟨_, rfl, ?_⟩; replace O0 := a_ (Kd.S_below (by (with_reducible repeat (first | apply Kd.S_alloc | apply Kd.S_drewN | apply Kd.S_drew)); exact O0.out) hb); replace HB := a_ (below_step hB_ hb); (try clear hb); (try clear hb2); (try clear hk); (try clear hi)) | ((with_reducible refine gate_callee (f := 9) rfl ?_); refine goesL_ _ rfl rfl Tryd.func9 (by kernel_rfl) rfl #[.int .i64 t7] rfl hL_ ?_; (with_reducible refine (sleuthlaw0_Num.calls t7 t2 _ A34.out).mono ?_); rintro e w' ⟨rfl, ⟨nd, rfl⟩⟩; refine ⟨_, rfl, ?_⟩))
    go_ret
    exact ⟨by first | rfl | (simp [errW_none, errW_some] <;> rfl) | (simp only [← hji9, ← hji30]; first | rfl | (simp [errW_none, errW_some] <;> rfl)) | (simp [*, errW_none, errW_some] <;> rfl), hC_⟩
   rw [if_neg c37] at H
   have c37b0 : ((t0.length : Int) == 0) = false := beq_eq_false_iff_ne.mpr c37
   have c37b1 : ((t0.length : Int) != 0) = true := bne_iff_ne.mpr c37
   have c37b2 : ¬ (t0 = []) := fun h_ => c37 (by rw [h_]; rfl)
   replace H := Option.bind_eq_some_iff.mp H
   obtain ⟨t8, A410, H⟩ := H
   try dsimp only at H
   have A41 := a_ A410
   clear A410
   obtain rfl := Option.some.inj H
   obtain ⟨a5, o4, e4⟩ := Kd.S_slice O0.out
   subst e4
   have q43 : ((ji30) : Int) ≤ ((l0.length : Int) : Int) := of_decide_eq_true hA_
   obtain ⟨i043, hi043, _, hsz43, _⟩ := info_parts info37
   have hroom43 : l0.length ≤ c0 := HC0.out
   have hC43 : Kd.C k37 _ A0 l0.length l0 := HR0.out
   have hcut43 := cut_to (P := Tryd.prog) 22 37 .i64 Tryd.underlying22 hi043 A0 l0.length c0 (ji30) (of_decide_eq_true hA_) q43 hroom43
   have hr43 := Kd.C_take (m := ((ji30) : Int).toNat) hC43 (by omega)
   have i4 : y0.length = ((ji30) : Int).toNat := (by rw [Y0.out, List.length_take]; omega)
   rw [← Y0.out] at hr43
   rw [← i4] at hcut43
   have HR344 := a_ hr43
   have HC344 := a_ (show y0.length ≤ c0 from by omega)
   clear hr43 hC43 hroom43 hi043 hsz43
   have KY43 := a_ i4
   clear i4
   replace q43 := eq_true q43
   go_wp2_with (first | ((with_reducible refine gate_callee (f := 8) rfl ?_); refine goesL_ (some 77) rfl rfl Tryd.func8 (by kernel_rfl) rfl #[.slice A0 y0.length c0] rfl hL_ ?_; (with_reducible refine (file_Text.calls kj12 _ _ y0 t9 t7 _ ?s1 ?s2 A33.out hG_).mono ?_); (case s1 => exact cB_ HR344.out); (case s2 => exact HC344.out); rintro e w7 ⟨rfl, hb⟩; refine ⟨_, rfl, ?_⟩; replace O0 := a_ (Kd.S_below (by (with_reducible repeat (first | apply Kd.S_alloc | apply Kd.S_drewN | apply Kd.S_drew)); exact O0.out) hb); replace HB := a_ (below_step hB_ hb); (try clear hb); (try clear hb2); (try clear hk); (try clear hi)) | ((with_reducible refine gate_callee (f := 9) rfl ?_); refine goesL_ _ rfl rfl Tryd.func9 (by kernel_rfl) rfl #[.int .i64 t7] rfl hL_ ?_; (with_reducible refine (sleuthlaw0_Num.calls t7 t2 _ A34.out).mono ?_); rintro e w' ⟨rfl, ⟨nd, rfl⟩⟩; refine ⟨_, rfl, ?_⟩) | (go_at_call 12; (with_reducible refine (sleuthref12_TrailMay.calls kj12 _ _ t0 t8 _ ?s1 ?s2 A41.out).mono ?_); (case s1 => repeat (first | exact (Kd.S_reads' O0.out).2.2 | (with_reducible refine Kd.C_alloc ?_ _) | (with_reducible refine Kd.C_drewN ?_ _) | (with_reducible refine Kd.C_drew ?_))); (case s2 => exact (Kd.S_reads' O0.out).2.1); rintro e w8 ⟨rfl, hb⟩; replace O0 := a_ (Kd.S_below (by (with_reducible repeat (first | apply Kd.S_alloc | apply Kd.S_drewN | apply Kd.S_drew)); exact O0.out) hb); replace HB := a_ (below_step hB_ hb); (try clear hb); (try clear hb2); (try clear hk); (try clear hi)))
   go_ret
   exact ⟨by first | rfl | (simp [errW_none, errW_some] <;> rfl) | (simp only [← hji9, ← hji30]; first | rfl | (simp [errW_none, errW_some] <;> rfl)) | (simp [*, errW_none, errW_some] <;> rfl), hC_⟩
end Go.Proofs.YtnhmmbgnaogokaaDoor.G
