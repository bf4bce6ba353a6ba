-- Laid by the session's own driver gp.py over the kit's printer. Not trusted: Lean checks it.
import Derived.Test.YtnhmmbgnaogokaaGreatDoorU2
import Derived.Test.YtnhmmbgnaogokaaGreatDoorG0
import Derived.Test.YtnhmmbgnaogokaaGreatDoorU8
import Derived.Test.YtnhmmbgnaogokaaGreatDoorU9
import Derived.Test.YtnhmmbgnaogokaaGreatDoorU10
import Derived.Test.YtnhmmbgnaogokaaGreatDoorU11
import Derived.Test.YtnhmmbgnaogokaaGreatDoorG43
namespace Go.Proofs.YtnhmmbgnaogokaaGreatDoor.G
open Go.RowKit Go.Proofs.YtnhmmbgnaogokaaGreatDoorW.PrintWords Go.Proofs.YtnhmmbgnaogokaaGreatDoorW.PrintLast Go.Proofs.YtnhmmbgnaogokaaGreatDoorW.PrintMore
set_option maxHeartbeats 8000000
set_option maxRecDepth 100000
attribute [local go_sem] max2_int min2_int max_two min_two max_three min_three max_four min_four   -- for this text's walks alone
set_option linter.unusedVariables false
set_option linter.unusedSimpArgs false

mutual
def sleuthlaw17_FileBad.l0 : Nat → Int → Int → ByteArray → Int → Option (Bool)
 | 0, _, _, _, _ => none
 | k + 1, x0, x5, x6, x7 => if x7 < 5 then (if x7 = x5 then ((sleuthlaw17_odd.f k x0 x7).bind fun t414 => (if x6.size + t414.size ≤ 9223372036854775807 then ((sleuthlaw17_some.f).bind fun t415 => (if 0 ≤ x7 then (if x7 < (t415.length : Int) then ((sleuthref12_PutRecord.f k ((rd_T41 t415 x7).f0) ((rd_T41 t415 x7).f1) ((rd_T41 t415 x7).f2) ((rd_T41 t415 x7).f3)).bind fun bt419 => ((sleuthref12_PutFrame.f k bt419.1).bind fun bt421 => (if (x6 ++ t414).size + bt421.1.size ≤ 9223372036854775807 then (sleuthlaw17_FileBad.l0 k x0 x5 ((x6 ++ t414) ++ bt421.1) (wrap64 (x7 + 1))) else (none)))) else (none)) else (none))) else (none))) else ((sleuthlaw17_some.f).bind fun t423 => (if 0 ≤ x7 then (if x7 < (t423.length : Int) then ((sleuthref12_PutRecord.f k ((rd_T41 t423 x7).f0) ((rd_T41 t423 x7).f1) ((rd_T41 t423 x7).f2) ((rd_T41 t423 x7).f3)).bind fun bt427 => ((sleuthref12_PutFrame.f k bt427.1).bind fun bt429 => (if x6.size + bt429.1.size ≤ 9223372036854775807 then (sleuthlaw17_FileBad.l0 k x0 x5 (x6 ++ bt429.1) (wrap64 (x7 + 1))) else (none)))) else (none)) else (none)))) else (if x5 = 5 then ((sleuthlaw17_odd.f k x0 5).bind fun t431 => (if x6.size + t431.size ≤ 9223372036854775807 then (sleuthlaw17_FileBad.j1 k x5 (x6 ++ t431)) else (none))) else (sleuthlaw17_FileBad.j1 k x5 x6))
def sleuthlaw17_FileBad.j1 : Nat → Int → ByteArray → Option (Bool)
 | 0, _, _ => none
 | k + 1, x5, x6 => (file_Load.f k x6).bind fun bt432 => ((sleuthlaw17_some.f).bind fun t436 => (if 0 ≤ x5 then (if x5 ≤ (t436.length : Int) then ((sleuthref12_FileText.f k (t436.take (x5 : Int).toNat)).bind fun bt444 => ((sleuthlaw0_Num.f 0).bind fun t446 => (if t446 = 0 then ((sleuthlaw17_some.f).bind fun t447 => (if x5 ≤ (t447.length : Int) then ((sleuthlaw0_SameNodes.f k bt432.1 (t447.take (x5 : Int).toNat)).bind fun t455 => (if t455 = true then (some (bt432.2 == (bt444.1.size : Int))) else (none))) else (none))) else (none)))) else (none)) else (none)))
end
def sleuthlaw17_FileBad.f (k : Nat) (a0 : Int) (a1 : Int) : Option (Bool) := (sleuthlaw17_awake.f k).bind fun t413 => (if t413 = true then (sleuthlaw17_FileBad.l0 k a0 (wrap64 (Int.tmod (IntKind.u64.wrap (a1)) 6)) (⟨#[]⟩ : ByteArray) 0) else (none))
theorem sleuthlaw17_FileBad.calls (k : Nat) (a0 : Int) (a1 : Int) (r : Bool) (w : World) (h : sleuthlaw17_FileBad.f k a0 a1 = some r) (hG : GOK w) :
 Calls Tryz.prog 4 #[.int .i64 a0, .int .i64 a1] w fun e w' => e = .returned (.bool r) ∧ Below w.heap.size w w' := by
 have hu41 := Tryz.underlying41
 have HB := a_ (Below.refl w.heap.size w)
 have H := h; unfold sleuthlaw17_FileBad.f at H
 clear h
 replace H := Option.bind_eq_some_iff.mp H
 obtain ⟨t15, A30, H⟩ := H
 try dsimp only at H
 have A3 := a_ A30
 clear A30
 by_cases c4 : t15 = true
 case neg =>
  replace c4 := Bool.eq_false_iff.mpr c4
  subst c4
  rw [if_neg (show ¬ (false = true) by decide)] at H
  cases H
 subst c4
 rw [if_pos rfl] at H
 have H' := a_ H
 clear H
 go_enter Tryz.func4, Tryz.ntmps4
 go_wp2_with (first | ((with_reducible refine gate_callee (f := 13) rfl ?_); refine goesL_ (some 16) rfl rfl Tryz.func13 (by kernel_rfl) rfl #[] rfl hL_ ?_; (with_reducible refine (sleuthlaw17_awake.calls k  true _ A3.out hG_).mono ?_); rintro e w5 ⟨rfl, hb⟩; refine ⟨_, rfl, ?_⟩; replace HB := a_ (below_step hB_ hb); (try clear hb); (try clear hb2); (try clear hk); (try clear hi)))
 go_loopg [6, 7] k (fun kq v6 v7 w' => ∃ (x1 : ByteArray) (x0 : Int), v6 = .string x1 ∧ v7 = .int .i64 x0 ∧ Aside0 (sleuthlaw17_FileBad.l0 kq a0 (wrap64 (Int.tmod (IntKind.u64.wrap (a1)) 6)) x1 x0 = some r) ∧ Aside0 (kq ≤ k) ∧ Aside0 (Below w.heap.size w w'))
 case atStart => exact ⟨((⟨#[]⟩ : ByteArray)), (0), hW_, hW_, H', ⟨Nat.le_refl _⟩, ⟨hC_⟩⟩
 case round =>
  clear H'
  try clear c1
  try clear p2
  try clear c4
  obtain ⟨x1, x0, rfl, rfl, HA, HK1, HB⟩ := hrel
  cases gk with
  | zero => exact absurd HA.out (by simp [sleuthlaw17_FileBad.l0])
  | succ k1 =>
   have H := HA.out
   clear HA
   simp only [sleuthlaw17_FileBad.l0] at H
   by_cases c6 : x0 < 5
   case pos =>
    rw [if_pos c6] at H
    have c6b0 : decide (x0 < 5) = true := decide_eq_true c6
    clear c6
    by_cases c7 : x0 = (wrap64 (Int.tmod (IntKind.u64.wrap (a1)) 6))
    case neg =>
     rw [if_neg c7] at H
     have c7b0 : (x0 == (wrap64 (Int.tmod (IntKind.u64.wrap (a1)) 6))) = false := beq_eq_false_iff_ne.mpr c7
     have c7b1 : (x0 != (wrap64 (Int.tmod (IntKind.u64.wrap (a1)) 6))) = true := bne_iff_ne.mpr c7
     (try (have c7b0w := c7b0; (rw [show wrap64 (Int.tmod (IntKind.u64.wrap (a1)) 6) = (Int.tmod (IntKind.u64.wrap (a1)) 6) from by unfold wrap64; omega] at c7b0w)))
     (try (have c7b1w := c7b1; (rw [show wrap64 (Int.tmod (IntKind.u64.wrap (a1)) 6) = (Int.tmod (IntKind.u64.wrap (a1)) 6) from by unfold wrap64; omega] at c7b1w)))
     replace H := Option.bind_eq_some_iff.mp H
     obtain ⟨t1, A210, H⟩ := H
     try dsimp only at H
     have A21 := a_ A210
     clear A210
     replace H := ifI_ H; obtain ⟨c22, H⟩ := H
     have c22b0 : decide (0 ≤ x0) = true := decide_eq_true c22
     clear c22
     replace H := ifI_ H; obtain ⟨c23, H⟩ := H
     have c23b0 : decide (x0 < (t1.length : Int)) = true := decide_eq_true c23
     clear c23
     replace H := Option.bind_eq_some_iff.mp H
     obtain ⟨⟨t12, t16⟩, A240, H⟩ := H
     try dsimp only at H
     have A24 := a_ A240
     clear A240
     replace H := Option.bind_eq_some_iff.mp H
     obtain ⟨⟨t9, t17⟩, A250, H⟩ := H
     try dsimp only at H
     have A25 := a_ A250
     clear A250
     replace H := ifI_ H; obtain ⟨c26, H⟩ := H
     have c26b0 := eq_true c26
     have c26b1 : decide (x1.size + t9.size ≤ 9223372036854775807) = true := decide_eq_true c26
     try have c26b2 : (9223372036854775807 < x1.size + t9.size) = False := eq_false (Nat.not_lt.2 c26)
     have H' := a_ H
     clear H
     go_wp2_with (first | ((with_reducible refine gate_callee (f := 16) rfl ?_); refine goesL_ (some 35) rfl rfl Tryz.func16 (by kernel_rfl) rfl #[] rfl hL_ ?_; (with_reducible refine (sleuthlaw17_some.calls  t1 _ A21.out).mono ?_); rintro e w0 ⟨v1, rfl, ho0, hb⟩; refine ⟨_, rfl, ?_⟩; have P2 := a_ (Kd.N_lower (Kd.N_mono (ok' := fun k_ => True) ho0 (fun k_ hk_ => trivial)) hS_); replace HB := a_ (below_step hB_ hb); (try clear hb); (try clear hb2); (try clear hk); (try clear hi); (try clear ho0); obtain ⟨a4, o2, e0⟩ := Kd.N_slice P2.out; subst e0; have p426 : 0 ≤ (x0 : Int) := of_decide_eq_true hA_; have q426 : x0 < (t1.length : Int) := of_decide_eq_true hA_; obtain ⟨d0, A426_2, c426_2, e426, h2, h3, h0, h4, hl426_2, hi426_2⟩ := at_T41 (Kd.N_reads' P2.out).2.2 x0 p426 q426; cases e426; obtain ⟨ce426, hce426, hMe426, hcc426⟩ := Kd.N_get P2.out z41 x0 p426 (by first | exact q426 | exact of_decide_eq_true hA_ | (have e_ := (Kd.N_reads' P2.out).1; omega)); obtain ⟨ua426_2, uc426_2, rfl, ul426_2, ge426_2⟩ := k41_openF hMe426; have hv426_2 := hcc426 2 _ rfl; rw [add_field _ _ 2 (by omega)] at hv426_2; replace hv426_2 := Option.some.inj (hv426_2.symm.trans h0); injection hv426_2 with hva_ hvn_ hvc_; rw [hva_] at ge426_2; rw [hvc_] at ul426_2; have L0 := a_ (show Kd.V Kd.string 9 _ w.heap.size _ _ ((rd_T41 t1 x0).f2) from Kd.V_mk ul426_2 ge426_2); clear hva_ hvn_ hvc_ ge426_2 ul426_2; clear hcc426 hce426; have HR426_2 := a_ hi426_2; have HC426_2 := a_ hl426_2; clear hi426_2 hl426_2; replace p426 := eq_true p426; replace q426 := eq_true q426) | ((with_reducible refine gate_callee (f := 15) rfl ?_); refine goesL_ (some 39) rfl rfl Tryz.func15 (by kernel_rfl) rfl #[.agg #[.int .i64 ((rd_T41 t1 x0).f0), .int .i64 ((rd_T41 t1 x0).f1), .slice A426_2 ((rd_T41 t1 x0).f2).length c426_2, .string ((rd_T41 t1 x0).f3)]] rfl hL_ ?_; (with_reducible refine (sleuthref12_PutRecord.calls k1 ((rd_T41 t1 x0).f0) ((rd_T41 t1 x0).f1) _ _ ((rd_T41 t1 x0).f2) ((rd_T41 t1 x0).f3) t12 t16 _ ?s1 ?s2 A24.out).mono ?_); (case s1 => repeat (first | exact (by repeat (first | (with_reducible exact HR426_2.out) | (with_reducible refine Kd.C_alloc ?_ _) | (with_reducible refine Kd.C_drewN ?_ _) | (with_reducible refine Kd.C_drew ?_) | exact HR426_2.out)) | (with_reducible refine Kd.C_alloc ?_ _) | (with_reducible refine Kd.C_drewN ?_ _) | (with_reducible refine Kd.C_drew ?_))); (case s2 => exact HC426_2.out); rintro e w1 ⟨rfl, hb⟩; refine ⟨_, rfl, ?_⟩; replace P2 := a_ (Kd.N_below (hN_ P2.out) hb); replace L0 := a_ (Kd.V_below (by (with_reducible repeat (first | apply Kd.V_alloc | apply Kd.V_drewN | apply Kd.V_drew)); exact L0.out) hb); replace HR426_2 := a_ (Kd.C_below (by repeat (first | (with_reducible exact HR426_2.out) | (with_reducible refine Kd.C_alloc ?_ _) | (with_reducible refine Kd.C_drewN ?_ _) | (with_reducible refine Kd.C_drew ?_) | exact HR426_2.out)) hb); replace HB := a_ (below_step hB_ hb); (try clear hb); (try clear hb2); (try clear hk); (try clear hi)) | ((with_reducible refine gate_callee (f := 17) rfl ?_); refine goesL_ (some 44) rfl rfl Tryz.func17 (by kernel_rfl) rfl #[.string t12] rfl hL_ ?_; (with_reducible refine (sleuthref12_PutFrame.calls k1 t12 t9 t17 _ A25.out).mono ?_); rintro e w2 ⟨rfl, hb⟩; refine ⟨_, rfl, ?_⟩; replace P2 := a_ (Kd.N_below (hN_ P2.out) hb); replace L0 := a_ (Kd.V_below (by (with_reducible repeat (first | apply Kd.V_alloc | apply Kd.V_drewN | apply Kd.V_drew)); exact L0.out) hb); replace HR426_2 := a_ (Kd.C_below (by repeat (first | (with_reducible exact HR426_2.out) | (with_reducible refine Kd.C_alloc ?_ _) | (with_reducible refine Kd.C_drewN ?_ _) | (with_reducible refine Kd.C_drew ?_) | exact HR426_2.out)) hb); replace HB := a_ (below_step hB_ hb); (try clear hb); (try clear hb2); (try clear hk); (try clear hi)))
     go_roundg k1
     case measure => have := HK1.out; omega
     case rel => exact ⟨(x1 ++ t9), (wrap64 (x0 + 1)), hW_, hW_, H', ⟨by have := HK1.out; omega⟩, ⟨hC_⟩⟩
    rw [if_pos c7] at H
    have c7b0 : (x0 == (wrap64 (Int.tmod (IntKind.u64.wrap (a1)) 6))) = true := beq_iff_eq.mpr c7
    have c7b1 : (x0 != (wrap64 (Int.tmod (IntKind.u64.wrap (a1)) 6))) = false := bne_eq_false_iff_eq.mpr c7
    (try (have c7b0w := c7b0; (rw [show wrap64 (Int.tmod (IntKind.u64.wrap (a1)) 6) = (Int.tmod (IntKind.u64.wrap (a1)) 6) from by unfold wrap64; omega] at c7b0w)))
    (try (have c7b1w := c7b1; (rw [show wrap64 (Int.tmod (IntKind.u64.wrap (a1)) 6) = (Int.tmod (IntKind.u64.wrap (a1)) 6) from by unfold wrap64; omega] at c7b1w)))
    clear c7
    replace H := Option.bind_eq_some_iff.mp H
    obtain ⟨t5, A80, H⟩ := H
    try dsimp only at H
    have A8 := a_ A80
    clear A80
    replace H := ifI_ H; obtain ⟨c9, H⟩ := H
    have c9b0 := eq_true c9
    have c9b1 : decide (x1.size + t5.size ≤ 9223372036854775807) = true := decide_eq_true c9
    try have c9b2 : (9223372036854775807 < x1.size + t5.size) = False := eq_false (Nat.not_lt.2 c9)
    replace H := Option.bind_eq_some_iff.mp H
    obtain ⟨t2, A100, H⟩ := H
    try dsimp only at H
    have A10 := a_ A100
    clear A100
    replace H := ifI_ H; obtain ⟨c11, H⟩ := H
    have c11b0 : decide (0 ≤ x0) = true := decide_eq_true c11
    clear c11
    replace H := ifI_ H; obtain ⟨c12, H⟩ := H
    have c12b0 : decide (x0 < (t2.length : Int)) = true := decide_eq_true c12
    clear c12
    replace H := Option.bind_eq_some_iff.mp H
    obtain ⟨⟨t13, t18⟩, A130, H⟩ := H
    try dsimp only at H
    have A13 := a_ A130
    clear A130
    replace H := Option.bind_eq_some_iff.mp H
    obtain ⟨⟨t7, t19⟩, A140, H⟩ := H
    try dsimp only at H
    have A14 := a_ A140
    clear A140
    replace H := ifI_ H; obtain ⟨c15, H⟩ := H
    have c15b0 := eq_true c15
    have c15b1 : decide ((x1 ++ t5).size + t7.size ≤ 9223372036854775807) = true := decide_eq_true c15
    try have c15b2 : (9223372036854775807 < (x1 ++ t5).size + t7.size) = False := eq_false (Nat.not_lt.2 c15)
    try have c15b3 : (9223372036854775807 < x1.size + t5.size + t7.size) = False := eq_false (Nat.not_lt.2 (by have h_ := c15; simp only [ByteArray.size_append, ByteArray.size_extract, Nat.min_self] at h_; omega))
    have H' := a_ H
    clear H
    go_wp2_with (first | ((with_reducible refine gate_callee (f := 14) rfl ?_); refine goesL_ (some 32) rfl rfl Tryz.func14 (by kernel_rfl) rfl #[.int .i64 a0, .int .i64 x0] rfl hL_ ?_; (with_reducible refine (sleuthlaw17_odd.calls k1 a0 x0 t5 _ A8.out).mono ?_); rintro e w3 ⟨rfl, hb⟩; refine ⟨_, rfl, ?_⟩; replace HB := a_ (below_step hB_ hb); (try clear hb); (try clear hb2); (try clear hk); (try clear hi)) | ((with_reducible refine gate_callee (f := 16) rfl ?_); refine goesL_ (some 35) rfl rfl Tryz.func16 (by kernel_rfl) rfl #[] rfl hL_ ?_; (with_reducible refine (sleuthlaw17_some.calls  t2 _ A10.out).mono ?_); rintro e w4 ⟨v2, rfl, ho0, hb⟩; refine ⟨_, rfl, ?_⟩; have P3 := a_ (Kd.N_lower (Kd.N_mono (ok' := fun k_ => True) ho0 (fun k_ hk_ => trivial)) hS_); replace HB := a_ (below_step hB_ hb); (try clear hb); (try clear hb2); (try clear hk); (try clear hi); (try clear ho0); obtain ⟨a5, o3, e1⟩ := Kd.N_slice P3.out; subst e1; have p418 : 0 ≤ (x0 : Int) := of_decide_eq_true hA_; have q418 : x0 < (t2.length : Int) := of_decide_eq_true hA_; obtain ⟨d1, A418_2, c418_2, e418, h5, h6, h1, h7, hl418_2, hi418_2⟩ := at_T41 (Kd.N_reads' P3.out).2.2 x0 p418 q418; cases e418; obtain ⟨ce418, hce418, hMe418, hcc418⟩ := Kd.N_get P3.out z41 x0 p418 (by first | exact q418 | exact of_decide_eq_true hA_ | (have e_ := (Kd.N_reads' P3.out).1; omega)); obtain ⟨ua418_2, uc418_2, rfl, ul418_2, ge418_2⟩ := k41_openF hMe418; have hv418_2 := hcc418 2 _ rfl; rw [add_field _ _ 2 (by omega)] at hv418_2; replace hv418_2 := Option.some.inj (hv418_2.symm.trans h1); injection hv418_2 with hva_ hvn_ hvc_; rw [hva_] at ge418_2; rw [hvc_] at ul418_2; have L1 := a_ (show Kd.V Kd.string 9 _ w.heap.size _ _ ((rd_T41 t2 x0).f2) from Kd.V_mk ul418_2 ge418_2); clear hva_ hvn_ hvc_ ge418_2 ul418_2; clear hcc418 hce418; have HR418_2 := a_ hi418_2; have HC418_2 := a_ hl418_2; clear hi418_2 hl418_2; replace p418 := eq_true p418; replace q418 := eq_true q418) | ((with_reducible refine gate_callee (f := 15) rfl ?_); refine goesL_ (some 39) rfl rfl Tryz.func15 (by kernel_rfl) rfl #[.agg #[.int .i64 ((rd_T41 t2 x0).f0), .int .i64 ((rd_T41 t2 x0).f1), .slice A418_2 ((rd_T41 t2 x0).f2).length c418_2, .string ((rd_T41 t2 x0).f3)]] rfl hL_ ?_; (with_reducible refine (sleuthref12_PutRecord.calls k1 ((rd_T41 t2 x0).f0) ((rd_T41 t2 x0).f1) _ _ ((rd_T41 t2 x0).f2) ((rd_T41 t2 x0).f3) t13 t18 _ ?s1 ?s2 A13.out).mono ?_); (case s1 => repeat (first | exact (by repeat (first | (with_reducible exact HR418_2.out) | (with_reducible refine Kd.C_alloc ?_ _) | (with_reducible refine Kd.C_drewN ?_ _) | (with_reducible refine Kd.C_drew ?_) | exact HR418_2.out)) | (with_reducible refine Kd.C_alloc ?_ _) | (with_reducible refine Kd.C_drewN ?_ _) | (with_reducible refine Kd.C_drew ?_))); (case s2 => exact HC418_2.out); rintro e w6 ⟨rfl, hb⟩; refine ⟨_, rfl, ?_⟩; replace P3 := a_ (Kd.N_below (hN_ P3.out) hb); replace L1 := a_ (Kd.V_below (by (with_reducible repeat (first | apply Kd.V_alloc | apply Kd.V_drewN | apply Kd.V_drew)); exact L1.out) hb); replace HR418_2 := a_ (Kd.C_below (by repeat (first | (with_reducible exact HR418_2.out) | (with_reducible refine Kd.C_alloc ?_ _) | (with_reducible refine Kd.C_drewN ?_ _) | (with_reducible refine Kd.C_drew ?_) | exact HR418_2.out)) hb); replace HB := a_ (below_step hB_ hb); (try clear hb); (try clear hb2); (try clear hk); (try clear hi)) | ((with_reducible refine gate_callee (f := 17) rfl ?_); refine goesL_ (some 44) rfl rfl Tryz.func17 (by kernel_rfl) rfl #[.string t13] rfl hL_ ?_; (with_reducible refine (sleuthref12_PutFrame.calls k1 t13 t7 t19 _ A14.out).mono ?_); rintro e w7 ⟨rfl, hb⟩; refine ⟨_, rfl, ?_⟩; replace P3 := a_ (Kd.N_below (hN_ P3.out) hb); replace L1 := a_ (Kd.V_below (by (with_reducible repeat (first | apply Kd.V_alloc | apply Kd.V_drewN | apply Kd.V_drew)); exact L1.out) hb); replace HR418_2 := a_ (Kd.C_below (by repeat (first | (with_reducible exact HR418_2.out) | (with_reducible refine Kd.C_alloc ?_ _) | (with_reducible refine Kd.C_drewN ?_ _) | (with_reducible refine Kd.C_drew ?_) | exact HR418_2.out)) hb); replace HB := a_ (below_step hB_ hb); (try clear hb); (try clear hb2); (try clear hk); (try clear hi)))
    go_roundg k1
    case measure => have := HK1.out; omega
    case rel => exact ⟨((x1 ++ t5) ++ t7), (wrap64 (x0 + 1)), hW_, hW_, H', ⟨by have := HK1.out; omega⟩, ⟨hC_⟩⟩
   rw [if_neg c6] at H
   have c6b0 : decide (x0 < 5) = false := decide_eq_false c6
   clear c6
   have HC31 := a_ H
   clear H
   go_upto_if 51 with (fail)
   go_cut [6] (fun v6 wc => ∃ (kq : Nat) (x2 : ByteArray), v6 = .string x2 ∧ Aside0 (sleuthlaw17_FileBad.j1 kq (wrap64 (Int.tmod (IntKind.u64.wrap (a1)) 6)) x2 = some r) ∧ Aside0 (kq ≤ k1) ∧ Aside0 (Below w.heap.size w wc))
   case first =>
    have H := HC31.out
    clear HC31
    by_cases c32 : (wrap64 (Int.tmod (IntKind.u64.wrap (a1)) 6)) = 5
    case neg =>
     rw [if_neg c32] at H
     have c32b0 : ((wrap64 (Int.tmod (IntKind.u64.wrap (a1)) 6)) == 5) = false := beq_eq_false_iff_ne.mpr c32
     have c32b1 : ((wrap64 (Int.tmod (IntKind.u64.wrap (a1)) 6)) != 5) = true := bne_iff_ne.mpr c32
     (try (have c32b0w := c32b0; (rw [show wrap64 (Int.tmod (IntKind.u64.wrap (a1)) 6) = (Int.tmod (IntKind.u64.wrap (a1)) 6) from by unfold wrap64; omega] at c32b0w)))
     (try (have c32b1w := c32b1; (rw [show wrap64 (Int.tmod (IntKind.u64.wrap (a1)) 6) = (Int.tmod (IntKind.u64.wrap (a1)) 6) from by unfold wrap64; omega] at c32b1w)))
     (first | rw [c32b0] | (simp only [i64_w, i32_w]; rw [c32b0]) | skip)
     have H' := a_ H
     clear H
     go_wp2
     go_meet
     case rel => exact ⟨_, (x1), hW_, H', ⟨by have := HK1.out; first | omega | exact Nat.le_refl _⟩, ⟨hC_⟩⟩
    rw [if_pos c32] at H
    have c32b0 : ((wrap64 (Int.tmod (IntKind.u64.wrap (a1)) 6)) == 5) = true := beq_iff_eq.mpr c32
    have c32b1 : ((wrap64 (Int.tmod (IntKind.u64.wrap (a1)) 6)) != 5) = false := bne_eq_false_iff_eq.mpr c32
    (try (have c32b0w := c32b0; (rw [show wrap64 (Int.tmod (IntKind.u64.wrap (a1)) 6) = (Int.tmod (IntKind.u64.wrap (a1)) 6) from by unfold wrap64; omega] at c32b0w)))
    (try (have c32b1w := c32b1; (rw [show wrap64 (Int.tmod (IntKind.u64.wrap (a1)) 6) = (Int.tmod (IntKind.u64.wrap (a1)) 6) from by unfold wrap64; omega] at c32b1w)))
    clear c32
    (first | rw [c32b0] | (simp only [i64_w, i32_w]; rw [c32b0]) | skip)
    replace H := Option.bind_eq_some_iff.mp H
    obtain ⟨t10, A330, H⟩ := H
    try dsimp only at H
    have A33 := a_ A330
    clear A330
    replace H := ifI_ H; obtain ⟨c34, H⟩ := H
    have c34b0 := eq_true c34
    have c34b1 : decide (x1.size + t10.size ≤ 9223372036854775807) = true := decide_eq_true c34
    try have c34b2 : (9223372036854775807 < x1.size + t10.size) = False := eq_false (Nat.not_lt.2 c34)
    have H' := a_ H
    clear H
    go_wp2_with (first | ((with_reducible refine gate_callee (f := 14) rfl ?_); refine goesL_ (some 54) rfl rfl Tryz.func14 (by kernel_rfl) rfl #[.int .i64 a0, .int .i64 5] rfl hL_ ?_; (with_reducible refine (sleuthlaw17_odd.calls k1 a0 5 t10 _ A33.out).mono ?_); rintro e w8 ⟨rfl, hb⟩; refine ⟨_, rfl, ?_⟩; replace HB := a_ (below_step hB_ hb); (try clear hb); (try clear hb2); (try clear hk); (try clear hi)))
    go_meet
    case rel => exact ⟨_, (x1 ++ t10), hW_, H', ⟨by have := HK1.out; first | omega | exact Nat.le_refl _⟩, ⟨hC_⟩⟩
   case rest =>
    clear HC31
    try clear c1
    try clear c2
    try clear p2
    try clear c3
    try clear c4
    try clear p4
    try clear q4
    try clear h8
    try clear c6
    try clear c6b0
    try clear p6
    try clear c7
    try clear c7b0
    try clear c7b1
    try clear c9
    try clear c9b0
    try clear c9b1
    try clear c9b2
    try clear c11
    try clear c11b0
    try clear c12
    try clear c12b0
    try clear c13
    try clear c14
    try clear c15
    try clear c15b0
    try clear c15b1
    try clear c15b2
    try clear c16
    try clear c17
    try clear c22
    try clear c22b0
    try clear c23
    try clear c23b0
    try clear c26
    try clear c26b0
    try clear c26b1
    try clear c26b2
    try clear c32
    try clear c32b0
    try clear c32b1
    try clear c34
    try clear c34b0
    try clear c34b1
    try clear c34b2
    try clear h5
    try clear h6
    try clear h1
    try clear h7
    try clear h2
    try clear h3
    try clear h0
    try clear h4
    try clear p2
    try clear p418
    try clear p426
    try clear q418
    try clear q426
    obtain ⟨kq, x2, rfl, HA, HJ30, HB⟩ := hcut
    cases kq with
    | zero => exact absurd HA.out (by simp [sleuthlaw17_FileBad.j1])
    | succ kj30 =>
     have H := HA.out
     clear HA
     simp only [sleuthlaw17_FileBad.j1] at H
     replace H := Option.bind_eq_some_iff.mp H
     obtain ⟨⟨t8, t11⟩, A360, H⟩ := H
     try dsimp only at H
     have A36 := a_ A360
     clear A360
     replace H := Option.bind_eq_some_iff.mp H
     obtain ⟨t3, A370, H⟩ := H
     try dsimp only at H
     have A37 := a_ A370
     clear A370
     obtain ⟨ji38, hji38⟩ : ∃ j_ : Int, (wrap64 (Int.tmod (IntKind.u64.wrap (a1)) 6)) = j_ := ⟨_, rfl⟩
     replace H : (if 0 ≤ (ji38) then (if (ji38) ≤ (t3.length : Int) then ((sleuthref12_FileText.f kj30 (t3.take ((ji38) : Int).toNat)).bind fun bt444 => ((sleuthlaw0_Num.f 0).bind fun t4 => (if t4 = 0 then ((sleuthlaw17_some.f).bind fun t0 => (if (ji38) ≤ (t0.length : Int) then ((sleuthlaw0_SameNodes.f kj30 t8 (t0.take ((ji38) : Int).toNat)).bind fun t6 => (if t6 = true then (some (t11 == (bt444.1.size : Int))) else (none))) else (none))) else (none)))) else (none)) else (none)) = some r := by first | (rw [hji38] at H; exact H) | (simp only [hji38] at H ⊢; exact H)
     (try rw [hji38] at A36)
     (try rw [hji38] at A37)
     have hji38w : (IntKind.i64.wrap (Int.tmod (IntKind.u64.wrap (a1)) 6)) = ji38 := (i64_w _).trans hji38
     replace H := ifI_ H; obtain ⟨c39, H⟩ := H
     have c39b0 := eq_true c39
     have c39b1 : decide (0 ≤ (ji38)) = true := decide_eq_true c39
     clear c39
     replace H := ifI_ H; obtain ⟨c40, H⟩ := H
     have c40b0 := eq_true c40
     have c40b1 : decide ((ji38) ≤ (t3.length : Int)) = true := decide_eq_true c40
     clear c40
     obtain ⟨y0, i0⟩ : ∃ y_ : List (S41), y_ = (t3.take ((ji38) : Int).toNat) := ⟨_, rfl⟩
     replace H : ((sleuthref12_FileText.f kj30 y0).bind fun bt444 => ((sleuthlaw0_Num.f 0).bind fun t4 => (if t4 = 0 then ((sleuthlaw17_some.f).bind fun t0 => (if (ji38) ≤ (t0.length : Int) then ((sleuthlaw0_SameNodes.f kj30 t8 (t0.take ((ji38) : Int).toNat)).bind fun t6 => (if t6 = true then (some (t11 == (bt444.1.size : Int))) else (none))) else (none))) else (none)))) = some r := by first | (rw [i0]; with_reducible exact H) | (have H2_ := (Option.bind_some _ _).symm.trans H; rw [i0]; with_reducible exact H2_) | (have H2_ := (Option.bind_some _ _).symm.trans H; with_reducible exact H2_) | with_reducible exact H | (rw [i0]; exact H) | exact H
     have Y0 := a_ i0
     clear i0
     replace H := Option.bind_eq_some_iff.mp H
     obtain ⟨⟨t14, t20⟩, A410, H⟩ := H
     try dsimp only at H
     have A41 := a_ A410
     clear A410
     replace H := Option.bind_eq_some_iff.mp H
     obtain ⟨t4, A420, H⟩ := H
     try dsimp only at H
     have A42 := a_ A420
     clear A420
     by_cases c43 : t4 = 0
     case neg =>
      rw [if_neg c43] at H
      have c43b0 : (t4 == 0) = false := beq_eq_false_iff_ne.mpr c43
      have c43b1 : (t4 != 0) = true := bne_iff_ne.mpr c43
      cases H
     rw [if_pos c43] at H
     have c43b0 : (t4 == 0) = true := beq_iff_eq.mpr c43
     have c43b1 : (t4 != 0) = false := bne_eq_false_iff_eq.mpr c43
     clear c43
     replace H := Option.bind_eq_some_iff.mp H
     obtain ⟨t0, A440, H⟩ := H
     try dsimp only at H
     have A44 := a_ A440
     clear A440
     have c45b0 := eq_true (of_decide_eq_true hA_ : 0 ≤ (ji38))
     replace H := ifI_ H; obtain ⟨c46, H⟩ := H
     have c46b0 := eq_true c46
     have c46b1 : decide ((ji38) ≤ (t0.length : Int)) = true := decide_eq_true c46
     clear c46
     obtain ⟨y1, i1⟩ : ∃ y_ : List (S41), y_ = (t0.take ((ji38) : Int).toNat) := ⟨_, rfl⟩
     replace H : ((sleuthlaw0_SameNodes.f kj30 t8 y1).bind fun t6 => (if t6 = true then (some (t11 == (t14.size : Int))) else (none))) = some r := by first | (rw [i1]; with_reducible exact H) | (have H2_ := (Option.bind_some _ _).symm.trans H; rw [i1]; with_reducible exact H2_) | (have H2_ := (Option.bind_some _ _).symm.trans H; with_reducible exact H2_) | with_reducible exact H | (rw [i1]; exact H) | exact H
     have Y1 := a_ i1
     clear i1
     replace H := Option.bind_eq_some_iff.mp H
     obtain ⟨t6, A470, H⟩ := H
     try dsimp only at H
     have A47 := a_ A470
     clear A470
     by_cases c48 : t6 = true
     case neg =>
      replace c48 := Bool.eq_false_iff.mpr c48
      subst c48
      rw [if_neg (show ¬ (false = true) by decide)] at H
      cases H
     subst c48
     rw [if_pos rfl] at H
     obtain rfl := Option.some.inj H
     go_wp2_with (first | ((with_reducible refine gate_callee (f := 8) rfl ?_); refine goesL_ (some 58) rfl rfl Tryz.func8 (by kernel_rfl) rfl #[.string x2] rfl hL_ ?_; (with_reducible refine (file_Load.calls kj30 x2 t8 t11 _ A36.out hG_).mono ?_); rintro e w9 ⟨v0, rfl, ho0, hb⟩; refine ⟨_, rfl, ?_⟩; have P0 := a_ (Kd.N_lower (Kd.N_mono (ok' := fun k_ => True) (Kd.S_N (Kd.S_bound ho0)) (fun k_ hk_ => trivial)) hS_); replace HB := a_ (below_step hB_ hb); (try clear hb); (try clear hb2); (try clear hk); (try clear hi); (try clear ho0)) | ((with_reducible refine gate_callee (f := 16) rfl ?_); refine goesL_ (some 62) rfl rfl Tryz.func16 (by kernel_rfl) rfl #[] rfl hL_ ?_; (with_reducible refine (sleuthlaw17_some.calls  t3 _ A37.out).mono ?_); rintro e w50 ⟨v3, rfl, ho0, hb⟩; refine ⟨_, rfl, ?_⟩; have P1 := a_ (Kd.N_lower (Kd.N_mono (ok' := fun k_ => some k_ ≠ (v0 : Value).ownBlock) ho0 (fun k_ hk_ => (Kd.fresh' (Kd.N_lt (hN_ P0.out)) k_ hk_))) hS_); replace P0 := a_ (Kd.N_elder' (hN_ P0.out) (Kd.N_base ho0) hb); replace HB := a_ (below_step hB_ hb); (try clear hb); (try clear hb2); (try clear hk); (try clear hi); (try clear ho0); obtain ⟨a2, o0, e2⟩ := Kd.N_slice P1.out; subst e2; have q51 : ((ji38) : Int) ≤ ((t3.length : Int) : Int) := of_decide_eq_true hA_; obtain ⟨i051, hi051, _, hsz51, _⟩ := info_parts info41; have hroom51 : t3.length ≤ o0 := (Kd.N_reads' P1.out).2.1; have hC51 : Kd.F k41 _ _ a2 t3.length t3 := (Kd.V_at (base := w.heap.size) (Kd.N_V P1.out)).2.2; have hcut51 := cut_to (P := Tryz.prog) 22 41 .i64 Tryz.underlying22 hi051 a2 t3.length o0 (ji38) (of_decide_eq_true hA_) q51 hroom51; have hr51 := Kd.F_take (m := ((ji38) : Int).toNat) hC51 (by omega); have i2 : y0.length = ((ji38) : Int).toNat := (by rw [Y0.out, List.length_take]; omega); rw [← Y0.out] at hr51; rw [← i2] at hcut51; have P4 := a_ (show Kd.V k41 41 _ w.heap.size _ (.slice a2 y0.length o0) y0 from Kd.V_mk (by omega) hr51); have HC443 := a_ (show y0.length ≤ o0 from by omega); clear hr51 hC51 hroom51 hi051 hsz51; have KY51 := a_ i2; clear i2; replace q51 := eq_true q51) | ((with_reducible refine gate_callee (f := 7) rfl ?_); refine goesL_ (some 65) rfl rfl Tryz.func7 (by kernel_rfl) rfl #[.slice a2 y0.length o0] rfl hL_ ?_; (with_reducible refine (sleuthref12_FileText.calls kj30 _ _ y0 t14 t20 _ ?s1 ?s2 A41.out).mono ?_); (case s1 => repeat (first | exact (Kd.V_reads' P4.out).2.2 | (with_reducible refine Kd.C_alloc ?_ _) | (with_reducible refine Kd.C_drewN ?_ _) | (with_reducible refine Kd.C_drew ?_))); (case s2 => exact (Kd.V_reads' P4.out).2.1); rintro e w53 ⟨rfl, hb⟩; refine ⟨_, rfl, ?_⟩; replace P0 := a_ (Kd.N_below (hN_ P0.out) hb); replace P1 := a_ (Kd.N_below (hN_ P1.out) hb); replace P4 := a_ (Kd.V_below (by (with_reducible repeat (first | apply Kd.V_alloc | apply Kd.V_drewN | apply Kd.V_drew)); exact P4.out) hb); replace HB := a_ (below_step hB_ hb); (try clear hb); (try clear hb2); (try clear hk); (try clear hi)) | ((with_reducible refine gate_callee (f := 10) rfl ?_); refine goesL_ _ rfl rfl Tryz.func10 (by kernel_rfl) rfl #[.int .i64 0] rfl hL_ ?_; (with_reducible refine (sleuthlaw0_Num.calls 0 t4 _ A42.out).mono ?_); rintro e w' ⟨rfl, ⟨nd, rfl⟩⟩; refine ⟨_, rfl, ?_⟩) | (go_at_call 16; (with_reducible refine (sleuthlaw17_some.calls  t0 _ A44.out).mono ?_); rintro e w54 ⟨v4, rfl, ho0, hb⟩; replace P4 := a_ (Kd.V_elder' (by (with_reducible repeat (first | apply Kd.V_alloc | apply Kd.V_drewN | apply Kd.V_drew)); exact P4.out) (Kd.N_base ho0) hb); have P5 := a_ (Kd.N_lower (Kd.N_mono (ok' := fun k_ => some k_ ≠ (v0 : Value).ownBlock ∧ some k_ ≠ (.slice a2 t3.length o0 : Value).ownBlock) ho0 (fun k_ hk_ => ⟨(Kd.fresh' (Kd.N_lt (hN_ P0.out)) k_ hk_), (Kd.fresh' (Kd.N_lt (hN_ P1.out)) k_ hk_)⟩)) hS_); replace P0 := a_ (Kd.N_elder' (hN_ P0.out) (Kd.N_base ho0) hb); replace P1 := a_ (Kd.N_elder' (hN_ P1.out) (Kd.N_base ho0) hb); replace HB := a_ (below_step hB_ hb); (try clear hb); (try clear hb2); (try clear hk); (try clear hi); (try clear ho0); obtain ⟨a3, o1, e3⟩ := Kd.N_slice P5.out; subst e3; have q55 : ((ji38) : Int) ≤ ((t0.length : Int) : Int) := of_decide_eq_true hA_; obtain ⟨i055, hi055, _, hsz55, _⟩ := info_parts info41; have hroom55 : t0.length ≤ o1 := (Kd.N_reads' P5.out).2.1; have hC55 : Kd.F k41 _ _ a3 t0.length t0 := (Kd.V_at (base := w.heap.size) (Kd.N_V P5.out)).2.2; have hcut55 := cut_to (P := Tryz.prog) 22 41 .i64 Tryz.underlying22 hi055 a3 t0.length o1 (ji38) (of_decide_eq_true hA_) q55 hroom55; have hr55 := Kd.F_take (m := ((ji38) : Int).toNat) hC55 (by omega); have i3 : y1.length = ((ji38) : Int).toNat := (by rw [Y1.out, List.length_take]; omega); rw [← Y1.out] at hr55; rw [← i3] at hcut55; have P6 := a_ (show Kd.V k41 41 _ w.heap.size _ (.slice a3 y1.length o1) y1 from Kd.V_mk (by omega) hr55); have HC454 := a_ (show y1.length ≤ o1 from by omega); clear hr55 hC55 hroom55 hi055 hsz55; have KY55 := a_ i3; clear i3; replace q55 := eq_true q55; obtain ⟨a6, o4, e4⟩ := Kd.N_slice P0.out; subst e4) | (go_at_call 11; (with_reducible refine (sleuthlaw0_SameNodes.calls kj30 _ _ t8 _ _ y1 true _ ?s1 ?s2 ?s3 ?s4 A47.out).mono ?_); (case s1 => repeat (first | exact (Kd.N_reads' P0.out).2.2 | (with_reducible refine Kd.C_alloc ?_ _) | (with_reducible refine Kd.C_drewN ?_ _) | (with_reducible refine Kd.C_drew ?_))); (case s2 => exact (Kd.N_reads' P0.out).2.1); (case s3 => repeat (first | exact (Kd.V_reads' P6.out).2.2 | (with_reducible refine Kd.C_alloc ?_ _) | (with_reducible refine Kd.C_drewN ?_ _) | (with_reducible refine Kd.C_drew ?_))); (case s4 => exact (Kd.V_reads' P6.out).2.1); rintro e w58 ⟨rfl, hb⟩; replace P0 := a_ (Kd.N_below (hN_ P0.out) hb); replace P1 := a_ (Kd.N_below (hN_ P1.out) hb); replace P4 := a_ (Kd.V_below (by (with_reducible repeat (first | apply Kd.V_alloc | apply Kd.V_drewN | apply Kd.V_drew)); exact P4.out) hb); replace P5 := a_ (Kd.N_below (hN_ P5.out) hb); replace P6 := a_ (Kd.V_below (by (with_reducible repeat (first | apply Kd.V_alloc | apply Kd.V_drewN | apply Kd.V_drew)); exact P6.out) hb); replace HB := a_ (below_step hB_ hb); (try clear hb); (try clear hb2); (try clear hk); (try clear hi)))
     go_ret
     exact ⟨by first | rfl | (simp [errW_none, errW_some] <;> rfl) | (simp only [← hji38]; first | rfl | (simp [errW_none, errW_some] <;> rfl)) | (simp [*, errW_none, errW_some] <;> rfl), hC_⟩
end Go.Proofs.YtnhmmbgnaogokaaGreatDoor.G
