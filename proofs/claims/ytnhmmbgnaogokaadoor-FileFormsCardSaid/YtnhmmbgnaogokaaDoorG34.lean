-- Laid by the session's own driver gp.py over the kit's printer. Not trusted: Lean checks it.
import Derived.Test.YtnhmmbgnaogokaaDoorTHead
import Derived.Test.YtnhmmbgnaogokaaDoorG0
import Derived.Test.YtnhmmbgnaogokaaDoorU8
import Derived.Test.YtnhmmbgnaogokaaDoorU9
namespace Go.Proofs.YtnhmmbgnaogokaaDoor.G
open Go.RowKit Go.Proofs.YtnhmmbgnaogokaaDoorW.PrintWords Go.Proofs.YtnhmmbgnaogokaaDoorW.PrintLast Go.Proofs.YtnhmmbgnaogokaaDoorW.PrintMore
set_option maxHeartbeats 8000000
set_option maxRecDepth 100000
attribute [local go_sem] max2_int min2_int max_two min_two max_three min_three max_four min_four   -- for this text's walks alone
set_option linter.unusedVariables false
set_option linter.unusedSimpArgs false

mutual
def sleuthlaw17_FileForms.j0 : Nat → Int → List (S37) → Option (Bool)
 | 0, _, _ => none
 | k + 1, x1, x5 => (file_Text.f k x5).bind fun bt367 => (sleuthlaw17_FileForms.l0 k x1 bt367.1 bt367.2 (⟨#[49]⟩ : ByteArray) 0)
def sleuthlaw17_FileForms.l0 : Nat → Int → ByteArray → Int → ByteArray → Int → Option (Bool)
 | 0, _, _, _, _, _ => none
 | k + 1, x1, x6, x7, x8, x9 => if x9 < 250 then (if 3 + x8.size ≤ 9223372036854775807 then (if ((⟨#[64, 49, 40]⟩ : ByteArray) ++ x8).size + 1 ≤ 9223372036854775807 then (sleuthlaw17_FileForms.l0 k x1 x6 x7 (((⟨#[64, 49, 40]⟩ : ByteArray) ++ x8) ++ (⟨#[41]⟩ : ByteArray)) (wrap64 (x9 + 1))) else (none)) else (none)) else (if 0 ≤ (wrap64 (60 + (Go.bits .and .i64 x1 31))) then (if (wrap64 (60 + (Go.bits .and .i64 x1 31)) : Int).toNat ≤ 5026338869833 then (sleuthlaw17_FileForms.l1 k x6 x7 x8 (List.replicate (wrap64 (60 + (Go.bits .and .i64 x1 31)) : Int).toNat z37) 0) else (none)) else (none))
def sleuthlaw17_FileForms.l1 : Nat → ByteArray → Int → ByteArray → List (S37) → Int → Option (Bool)
 | 0, _, _, _, _, _ => none
 | k + 1, x6, x7, x8, x10, x11 => if x11 < (x10.length : Int) then (if 0 ≤ x11 then (sleuthlaw17_FileForms.l1 k x6 x7 x8 (x10.set (x11 : Int).toNat (⟨(rd_T37 x10 x11).f0, (rd_T37 x10 x11).f1, (rd_T37 x10 x11).f2, x8⟩ : S37)) (wrap64 (x11 + 1))) else (none)) else (if 0 < (x10.length : Int) then ((file_Text.f k (x10.set (0 : Int).toNat (⟨(rd_T37 x10 0).f0, (-1), (rd_T37 x10 0).f2, (rd_T37 x10 0).f3⟩ : S37))).bind fun bt374 => (if x6.toList = ([] : List UInt8) then ((sleuthlaw0_Num.f x7).bind fun t376 => (if t376 = 1700 then (if (wrap64 (1013 * (x10.length : Int))) ≤ 65536 then ((sleuthlaw0_Num.f bt374.2).bind fun t377 => (if t377 = 0 then (if (bt374.1.size : Int) = (wrap64 (1013 * (x10.length : Int))) then (some true) else (if ((wrap64 (1013 * (x10.length : Int))) ≤ 65536) then (none) else (if bt374.1.toList = ([] : List UInt8) then (some (t377 == 1700)) else (none)))) else (if ((wrap64 (1013 * (x10.length : Int))) ≤ 65536) then (none) else (if bt374.1.toList = ([] : List UInt8) then (some (t377 == 1700)) else (none))))) else (if ((wrap64 (1013 * (x10.length : Int))) ≤ 65536) then (none) else (if bt374.1.toList = ([] : List UInt8) then ((sleuthlaw0_Num.f bt374.2).bind fun t378 => (some (t378 == 1700))) else (none)))) else (none))) else (none))) else (none))
end
def sleuthlaw17_FileForms.f (k : Nat) (a0 : Int) (a1 : Int) : Option (Bool) := (sleuthlaw17_awake.f k).bind fun t360 => (if t360 = true then ((sleuthlaw17_some.f).bind fun t361 => (if (Go.bits .and .i64 a0 3) = 0 then (sleuthlaw17_FileForms.j0 k a1 ([] : List (S37))) else (if (Go.bits .and .i64 a0 3) = 1 then (if 0 < (t361.length : Int) then (sleuthlaw17_FileForms.j0 k a1 (t361.set (0 : Int).toNat (⟨(rd_T37 t361 0).f0, 0, (rd_T37 t361 0).f2, (rd_T37 t361 0).f3⟩ : S37))) else (none)) else (if (Go.bits .and .i64 a0 3) = 2 then (if 4 < (t361.length : Int) then (sleuthlaw17_FileForms.j0 k a1 (t361.set (4 : Int).toNat (⟨(rd_T37 t361 4).f0, 4, (rd_T37 t361 4).f2, (rd_T37 t361 4).f3⟩ : S37))) else (none)) else (if 0 ≤ (Go.bits .and .i64 a1 3) then (if (Go.bits .and .i64 a1 3) < (t361.length : Int) then (sleuthlaw17_FileForms.j0 k a1 (t361.set ((Go.bits .and .i64 a1 3) : Int).toNat (⟨(rd_T37 t361 (Go.bits .and .i64 a1 3)).f0, (rd_T37 t361 (Go.bits .and .i64 a1 3)).f1, (rd_T37 t361 (Go.bits .and .i64 a1 3)).f2, (⟨#[48, 48]⟩ : ByteArray)⟩ : S37))) else (none)) else (none)))))) else (none))
theorem sleuthlaw17_FileForms.calls (k : Nat) (a0 : Int) (a1 : Int) (r : Bool) (w : World) (h : sleuthlaw17_FileForms.f k a0 a1 = some r) (hG : GOK w) :
 Calls Tryd.prog 4 #[.int .i64 a0, .int .i64 a1] w fun e w' => e = .returned (.bool r) ∧ Below w.heap.size w w' := by
 have HB := a_ (Below.refl w.heap.size w)
 have H := h; unfold sleuthlaw17_FileForms.f at H
 clear h
 replace H := Option.bind_eq_some_iff.mp H
 obtain ⟨t8, A30, H⟩ := H
 try dsimp only at H
 have A3 := a_ A30
 clear A30
 by_cases c4 : t8 = true
 case neg =>
  replace c4 := Bool.eq_false_iff.mpr c4
  subst c4
  rw [if_neg (show ¬ (false = true) by decide)] at H
  cases H
 subst c4
 rw [if_pos rfl] at H
 replace H := Option.bind_eq_some_iff.mp H
 obtain ⟨t0, A50, H⟩ := H
 try dsimp only at H
 have A5 := a_ A50
 clear A50
 have HC6 := a_ H
 clear H
 go_enter Tryd.func4, Tryd.ntmps4
 go_upto_block 0 with (first | ((with_reducible refine gate_callee (f := 7) rfl ?_); refine goesL_ (some 15) rfl rfl Tryd.func7 (by kernel_rfl) rfl #[] rfl hL_ ?_; (with_reducible refine (sleuthlaw17_awake.calls k  true _ A3.out hG_).mono ?_); rintro e w7 ⟨rfl, hb⟩; refine ⟨_, rfl, ?_⟩; replace HB := a_ (below_step hB_ hb); (try clear hb); (try clear hb2); (try clear hk); (try clear hi)) | ((with_reducible refine gate_callee (f := 13) rfl ?_); refine goesL_ (some 17) rfl rfl Tryd.func13 (by kernel_rfl) rfl #[] rfl hL_ ?_; (with_reducible refine (sleuthlaw17_some.calls  t0 _ A5.out).mono ?_); rintro e w8 ⟨v2, rfl, ho0, hb⟩; refine ⟨_, rfl, ?_⟩; have P0 := a_ (Kd.N_lower (Kd.N_mono (ok' := fun k_ => True) ho0 (fun k_ hk_ => trivial)) hS_); replace HB := a_ (below_step hB_ hb); (try clear hb); (try clear hb2); (try clear hk); (try clear hi); (try clear ho0)))
 (try simp only [Act.put, List.setIfInBounds_toArray, List.set_cons_zero, List.set_cons_succ])
 go_cut [5] (fun v5 wc => ∃ (kq : Nat) (x4 : List (S37)), Aside0 (sleuthlaw17_FileForms.j0 kq a1 x4 = some r) ∧ Aside0 (kq ≤ k) ∧ Aside0 (Kd.N k37 37 wc w.heap.size (fun _ => True) v5 x4) ∧ Aside0 (Below w.heap.size w wc))
 case first =>
  have H := HC6.out
  clear HC6
  by_cases c9 : (Go.bits .and .i64 a0 3) = 0
  case pos =>
   rw [if_pos c9] at H
   have c9b0 : ((Go.bits .and .i64 a0 3) == 0) = true := beq_iff_eq.mpr c9
   have c9b1 : ((Go.bits .and .i64 a0 3) != 0) = false := bne_eq_false_iff_eq.mpr c9
   clear c9
   (first | rw [c9b0] | (simp only [i64_w, i32_w]; rw [c9b0]) | skip)
   have H' := a_ H
   clear H
   go_wp2
   go_meet
   case rel => exact ⟨_, (([] : List (S37))), H', ⟨by first | omega | exact Nat.le_refl _⟩, ⟨by first | exact Kd.S_nil _ _ _ _ _ | exact Kd.N_nil _ _ _ _ _ | exact Kd.V_nil _ _ _ _ _ | exact Kd.Q_nil _ _ _ _ _ | exact Kd.R_nil _ _ _ _ _⟩, ⟨hC_⟩⟩
  rw [if_neg c9] at H
  have c9b0 : ((Go.bits .and .i64 a0 3) == 0) = false := beq_eq_false_iff_ne.mpr c9
  have c9b1 : ((Go.bits .and .i64 a0 3) != 0) = true := bne_iff_ne.mpr c9
  (first | rw [c9b0] | (simp only [i64_w, i32_w]; rw [c9b0]) | skip)
  by_cases c10 : (Go.bits .and .i64 a0 3) = 1
  case pos =>
   rw [if_pos c10] at H
   have c10b0 : ((Go.bits .and .i64 a0 3) == 1) = true := beq_iff_eq.mpr c10
   have c10b1 : ((Go.bits .and .i64 a0 3) != 1) = false := bne_eq_false_iff_eq.mpr c10
   clear c10
   replace H := ifI_ H; obtain ⟨c11, H⟩ := H
   have c11b0 : decide (0 < (t0.length : Int)) = true := decide_eq_true c11
   have c11b1 : decide (0 < t0.length) = true := decide_eq_true (by omega)
   clear c11
   obtain ⟨y1, i0⟩ : ∃ y_ : List (S37), y_ = (t0.set (0 : Int).toNat (⟨(rd_T37 t0 0).f0, 0, (rd_T37 t0 0).f2, (rd_T37 t0 0).f3⟩ : S37)) := ⟨_, rfl⟩
   replace H : (sleuthlaw17_FileForms.j0 k a1 y1) = some r := by first | (rw [i0]; with_reducible exact H) | (have H2_ := (Option.bind_some _ _).symm.trans H; rw [i0]; with_reducible exact H2_) | (have H2_ := (Option.bind_some _ _).symm.trans H; with_reducible exact H2_) | with_reducible exact H | (rw [i0]; exact H) | exact H
   have Y2 := a_ i0
   clear i0
   have H' := a_ H
   clear H
   have p12 : 0 ≤ (0 : Int) := (by omega)
   have q12 : (0 : Int) < ((t0.length : Int) : Int) := of_decide_eq_true hA_
   have qi12 : (0 < t0.length) = True := eq_true (by omega)
   obtain ⟨j2, o5, e1, g1, gl12, cl12, HG12⟩ := Kd.N_form P0.out (by omega)
   (first | cases e1 | (injection e1 with ea_ en_ ec_; (first | subst ea_ | (injection ea_ with ea_; subst ea_)); subst ec_; clear en_))
   have J1 := a_ g1
   have K1 := a_ HG12
   clear g1 gl12 HG12
   obtain ⟨ce12, hcl12, hM12, hcc12, hfr12⟩ := Kd.N_elem P0.out z37 (0 : Int) p12 q12
   obtain ⟨ua12_2, uc12_2, rfl, ul12_2, ge12_2⟩ := k37_openF hM12
   have h6 : w8.cell? ⟨j2, (0 : Int).toNat * 4, none⟩ = some (.int .i64 ((rd_T37 t0 0).f0)) := hcc12 0 _ rfl
   have h7 : w8.cell? ⟨j2, (0 : Int).toNat * 4 + 1, none⟩ = some (.int .i64 ((rd_T37 t0 0).f1)) := hcc12 1 _ rfl
   have h8 : w8.cell? ⟨j2, (0 : Int).toNat * 4 + 2, none⟩ = some (.slice ua12_2 ((rd_T37 t0 0).f2).length uc12_2) := hcc12 2 _ rfl
   have h9 : w8.cell? ⟨j2, (0 : Int).toNat * 4 + 3, none⟩ = some (.string ((rd_T37 t0 0).f3)) := hcc12 3 _ rfl
   have hf12_0 : w8.frozen? ⟨j2, (0 : Int).toNat * 4, none⟩ = false := hfr12 0
   have hf12_1 : w8.frozen? ⟨j2, (0 : Int).toNat * 4 + 1, none⟩ = false := hfr12 1
   have hf12_2 : w8.frozen? ⟨j2, (0 : Int).toNat * 4 + 2, none⟩ = false := hfr12 2
   have hf12_3 : w8.frozen? ⟨j2, (0 : Int).toNat * 4 + 3, none⟩ = false := hfr12 3
   clear hcl12 hcc12 hfr12 hM12
   (try rw [show ((0 : Int)).toNat = 0 from rfl] at h6)
   (try simp only [Nat.reduceMul, Nat.zero_mul, Nat.zero_add, Nat.reduceAdd] at h6)
   (try rw [show ((0 : Int)).toNat = 0 from rfl] at hf12_0)
   (try simp only [Nat.reduceMul, Nat.zero_mul, Nat.zero_add, Nat.reduceAdd] at hf12_0)
   (try rw [show ((0 : Int)).toNat = 0 from rfl] at h7)
   (try simp only [Nat.reduceMul, Nat.zero_mul, Nat.zero_add, Nat.reduceAdd] at h7)
   (try rw [show ((0 : Int)).toNat = 0 from rfl] at hf12_1)
   (try simp only [Nat.reduceMul, Nat.zero_mul, Nat.zero_add, Nat.reduceAdd] at hf12_1)
   (try rw [show ((0 : Int)).toNat = 0 from rfl] at h8)
   (try simp only [Nat.reduceMul, Nat.zero_mul, Nat.zero_add, Nat.reduceAdd] at h8)
   (try rw [show ((0 : Int)).toNat = 0 from rfl] at hf12_2)
   (try simp only [Nat.reduceMul, Nat.zero_mul, Nat.zero_add, Nat.reduceAdd] at hf12_2)
   (try rw [show ((0 : Int)).toNat = 0 from rfl] at h9)
   (try simp only [Nat.reduceMul, Nat.zero_mul, Nat.zero_add, Nat.reduceAdd] at h9)
   (try rw [show ((0 : Int)).toNat = 0 from rfl] at hf12_3)
   (try simp only [Nat.reduceMul, Nat.zero_mul, Nat.zero_add, Nat.reduceAdd] at hf12_3)
   replace p12 := eq_true p12
   replace q12 := eq_true q12
   have X0 := a_ (show Kd.N k37 37 w8 w.heap.size (fun _ => True) (.slice (some ⟨j2, 0, none⟩) t0.length o5) t0 from (hN_ P0.out))
   obtain ⟨ce13, hcl13, hM13, hcc13, hfr13⟩ := Kd.N_elem X0.out z37 (0 : Int) (by omega) (by have h_ : (0 : Int) < ((t0.length : Int) : Int) := of_decide_eq_true hA_; first | exact h_ | (have e_ := (Kd.N_reads' P0.out).1; omega) | simpa using h_)
   obtain ⟨ua13_2, uc13_2, rfl, ul13_2, ge13_2⟩ := k37_openF hM13
   have HP13 := Kd.N_seg X0.out (0 : Int) (by omega) (by have h_ : (0 : Int) < ((t0.length : Int) : Int) := of_decide_eq_true hA_; first | exact h_ | (have e_ := (Kd.N_reads' P0.out).1; omega) | simpa using h_) (seg := [.int .i64 0]) (j := 1) hcl13 hcc13 (show 2 ≤ 4 from by decide) (x' := (⟨(rd_T37 t0 0).f0, 0, (rd_T37 t0 0).f2, (rd_T37 t0 0).f3⟩ : S37)) (k37_mkF _ _ (⟨(rd_T37 t0 0).f0, 0, (rd_T37 t0 0).f2, (rd_T37 t0 0).f3⟩ : S37) ul13_2 ge13_2) (fun _ hk => hk)
   have h4 := hcc13 1 _ rfl
   (try simp only [show (k37).sz = 4 from rfl, Nat.mul_one, Nat.add_zero] at h4)
   (try rw [show ((0 : Int)).toNat = 0 from rfl] at h4)
   (try simp only [Nat.reduceMul, Nat.zero_mul, Nat.zero_add, Nat.reduceAdd] at h4)
   have hf13_1 := hfr13 1
   (try simp only [show (k37).sz = 4 from rfl, Nat.mul_one, Nat.add_zero] at hf13_1)
   (try rw [show ((0 : Int)).toNat = 0 from rfl] at hf13_1)
   (try simp only [Nat.reduceMul, Nat.zero_mul, Nat.zero_add, Nat.reduceAdd] at hf13_1)
   clear hcl13 hcc13 hfr13 hM13
   go_wp2_with (first | ((with_reducible refine gate_store (t := 3) (p := 31) rfl ?_); refine store_event (t := 3) (p := 31) (v := ?vo_w14) (w1 := (w8.setCell ⟨j2, 1, none⟩ (.int .i64 0))) ?hg ?ho ?hn ?hr ?_; (case ho => rfl); (case hg => rfl); (case hn => rfl); (case hr => first | (go_simp; done) | (go_simp; rfl)); intro w0 hw; have hg : w8.grownBy w0 (some j2) := (by rw [hw]; exact HP13.2); have hp_ : Kd.N k37 37 w0 w.heap.size (fun _ => True) (.slice (some ⟨j2, 0, none⟩) t0.length o5) y1 := (by rw [hw, Y2.out]; exact HP13.1); clear HP13; replace P0 := a_ (hp_); replace HB := a_ ((by rw [hw]; exact below_set (HB.out) J1.out : Below w.heap.size w w0)); clear hg hw hp_))
   go_meet
   case rel => exact ⟨_, (y1), H', ⟨by first | omega | exact Nat.le_refl _⟩, ⟨hN_ P0.out⟩, ⟨hC_⟩⟩
  rw [if_neg c10] at H
  have c10b0 : ((Go.bits .and .i64 a0 3) == 1) = false := beq_eq_false_iff_ne.mpr c10
  have c10b1 : ((Go.bits .and .i64 a0 3) != 1) = true := bne_iff_ne.mpr c10
  by_cases c15 : (Go.bits .and .i64 a0 3) = 2
  case neg =>
   rw [if_neg c15] at H
   have c15b0 : ((Go.bits .and .i64 a0 3) == 2) = false := beq_eq_false_iff_ne.mpr c15
   have c15b1 : ((Go.bits .and .i64 a0 3) != 2) = true := bne_iff_ne.mpr c15
   replace H := ifI_ H; obtain ⟨c20, H⟩ := H
   have c20b0 : decide (0 ≤ (Go.bits .and .i64 a1 3)) = true := decide_eq_true c20
   clear c20
   replace H := ifI_ H; obtain ⟨c21, H⟩ := H
   have c21b0 : decide ((Go.bits .and .i64 a1 3) < (t0.length : Int)) = true := decide_eq_true c21
   clear c21
   obtain ⟨y2, i1⟩ : ∃ y_ : List (S37), y_ = (t0.set ((Go.bits .and .i64 a1 3) : Int).toNat (⟨(rd_T37 t0 (Go.bits .and .i64 a1 3)).f0, (rd_T37 t0 (Go.bits .and .i64 a1 3)).f1, (rd_T37 t0 (Go.bits .and .i64 a1 3)).f2, (⟨#[48, 48]⟩ : ByteArray)⟩ : S37)) := ⟨_, rfl⟩
   replace H : (sleuthlaw17_FileForms.j0 k a1 y2) = some r := by first | (rw [i1]; with_reducible exact H) | (have H2_ := (Option.bind_some _ _).symm.trans H; rw [i1]; with_reducible exact H2_) | (have H2_ := (Option.bind_some _ _).symm.trans H; with_reducible exact H2_) | with_reducible exact H | (rw [i1]; exact H) | exact H
   have Y3 := a_ i1
   clear i1
   have H' := a_ H
   clear H
   have p22 : 0 ≤ ((Go.bits .and .i64 a1 3) : Int) := of_decide_eq_true hA_
   have q22 : ((Go.bits .and .i64 a1 3) : Int) < ((t0.length : Int) : Int) := of_decide_eq_true hA_
   obtain ⟨j3, o6, e2, g2, gl22, cl22, HG22⟩ := Kd.N_form P0.out (by omega)
   (first | cases e2 | (injection e2 with ea_ en_ ec_; (first | subst ea_ | (injection ea_ with ea_; subst ea_)); subst ec_; clear en_))
   have J2 := a_ g2
   have K2 := a_ HG22
   clear g2 gl22 HG22
   obtain ⟨ce22, hcl22, hM22, hcc22, hfr22⟩ := Kd.N_elem P0.out z37 ((Go.bits .and .i64 a1 3) : Int) p22 q22
   obtain ⟨ua22_2, uc22_2, rfl, ul22_2, ge22_2⟩ := k37_openF hM22
   have h15 : w8.cell? ⟨j3, ((Go.bits .and .i64 a1 3) : Int).toNat * 4, none⟩ = some (.int .i64 ((rd_T37 t0 (Go.bits .and .i64 a1 3)).f0)) := hcc22 0 _ rfl
   have h16 : w8.cell? ⟨j3, ((Go.bits .and .i64 a1 3) : Int).toNat * 4 + 1, none⟩ = some (.int .i64 ((rd_T37 t0 (Go.bits .and .i64 a1 3)).f1)) := hcc22 1 _ rfl
   have h17 : w8.cell? ⟨j3, ((Go.bits .and .i64 a1 3) : Int).toNat * 4 + 2, none⟩ = some (.slice ua22_2 ((rd_T37 t0 (Go.bits .and .i64 a1 3)).f2).length uc22_2) := hcc22 2 _ rfl
   have h18 : w8.cell? ⟨j3, ((Go.bits .and .i64 a1 3) : Int).toNat * 4 + 3, none⟩ = some (.string ((rd_T37 t0 (Go.bits .and .i64 a1 3)).f3)) := hcc22 3 _ rfl
   have hf22_0 : w8.frozen? ⟨j3, ((Go.bits .and .i64 a1 3) : Int).toNat * 4, none⟩ = false := hfr22 0
   have hf22_1 : w8.frozen? ⟨j3, ((Go.bits .and .i64 a1 3) : Int).toNat * 4 + 1, none⟩ = false := hfr22 1
   have hf22_2 : w8.frozen? ⟨j3, ((Go.bits .and .i64 a1 3) : Int).toNat * 4 + 2, none⟩ = false := hfr22 2
   have hf22_3 : w8.frozen? ⟨j3, ((Go.bits .and .i64 a1 3) : Int).toNat * 4 + 3, none⟩ = false := hfr22 3
   clear hcl22 hcc22 hfr22 hM22
   replace p22 := eq_true p22
   replace q22 := eq_true q22
   have X1 := a_ (show Kd.N k37 37 w8 w.heap.size (fun _ => True) (.slice (some ⟨j3, 0, none⟩) t0.length o6) t0 from (hN_ P0.out))
   obtain ⟨ce23, hcl23, hM23, hcc23, hfr23⟩ := Kd.N_elem X1.out z37 ((Go.bits .and .i64 a1 3) : Int) (of_decide_eq_true hA_) (by have h_ : ((Go.bits .and .i64 a1 3) : Int) < ((t0.length : Int) : Int) := of_decide_eq_true hA_; first | exact h_ | (have e_ := (Kd.N_reads' P0.out).1; omega) | simpa using h_)
   obtain ⟨ua23_2, uc23_2, rfl, ul23_2, ge23_2⟩ := k37_openF hM23
   have HP23 := Kd.N_seg X1.out ((Go.bits .and .i64 a1 3) : Int) (of_decide_eq_true hA_) (by have h_ : ((Go.bits .and .i64 a1 3) : Int) < ((t0.length : Int) : Int) := of_decide_eq_true hA_; first | exact h_ | (have e_ := (Kd.N_reads' P0.out).1; omega) | simpa using h_) (seg := [.string (⟨#[48, 48]⟩ : ByteArray)]) (j := 3) hcl23 hcc23 (show 4 ≤ 4 from by decide) (x' := (⟨(rd_T37 t0 (Go.bits .and .i64 a1 3)).f0, (rd_T37 t0 (Go.bits .and .i64 a1 3)).f1, (rd_T37 t0 (Go.bits .and .i64 a1 3)).f2, (⟨#[48, 48]⟩ : ByteArray)⟩ : S37)) (k37_mkF _ _ (⟨(rd_T37 t0 (Go.bits .and .i64 a1 3)).f0, (rd_T37 t0 (Go.bits .and .i64 a1 3)).f1, (rd_T37 t0 (Go.bits .and .i64 a1 3)).f2, (⟨#[48, 48]⟩ : ByteArray)⟩ : S37) ul23_2 ge23_2) (fun _ hk => hk)
   have h14 := hcc23 3 _ rfl
   (try simp only [show (k37).sz = 4 from rfl, Nat.mul_one, Nat.add_zero] at h14)
   have hf23_3 := hfr23 3
   (try simp only [show (k37).sz = 4 from rfl, Nat.mul_one, Nat.add_zero] at hf23_3)
   clear hcl23 hcc23 hfr23 hM23
   go_wp2_with (first | ((with_reducible refine gate_store (t := 9) (p := 24) rfl ?_); refine store_event (t := 9) (p := 24) (v := ?vo_w24) (w1 := (w8.setCell ⟨j3, ((Go.bits .and .i64 a1 3) : Int).toNat * 4 + 3, none⟩ (.string (⟨#[48, 48]⟩ : ByteArray)))) ?hg ?ho ?hn ?hr ?_; (case ho => rfl); (case hg => rfl); (case hn => rfl); (case hr => first | (go_simp; done) | (go_simp; rfl)); intro w2 hw; have hg : w8.grownBy w2 (some j3) := (by rw [hw]; exact HP23.2); have hp_ : Kd.N k37 37 w2 w.heap.size (fun _ => True) (.slice (some ⟨j3, 0, none⟩) t0.length o6) y2 := (by rw [hw, Y3.out]; exact HP23.1); clear HP23; replace P0 := a_ (hp_); replace HB := a_ ((by rw [hw]; exact below_set (HB.out) J2.out : Below w.heap.size w w2)); clear hg hw hp_))
   go_meet
   case rel => exact ⟨_, (y2), H', ⟨by first | omega | exact Nat.le_refl _⟩, ⟨hN_ P0.out⟩, ⟨hC_⟩⟩
  rw [if_pos c15] at H
  have c15b0 : ((Go.bits .and .i64 a0 3) == 2) = true := beq_iff_eq.mpr c15
  have c15b1 : ((Go.bits .and .i64 a0 3) != 2) = false := bne_eq_false_iff_eq.mpr c15
  clear c15
  replace H := ifI_ H; obtain ⟨c16, H⟩ := H
  have c16b0 : decide (4 < (t0.length : Int)) = true := decide_eq_true c16
  have c16b1 : decide (4 < t0.length) = true := decide_eq_true (by omega)
  clear c16
  obtain ⟨y3, i2⟩ : ∃ y_ : List (S37), y_ = (t0.set (4 : Int).toNat (⟨(rd_T37 t0 4).f0, 4, (rd_T37 t0 4).f2, (rd_T37 t0 4).f3⟩ : S37)) := ⟨_, rfl⟩
  replace H : (sleuthlaw17_FileForms.j0 k a1 y3) = some r := by first | (rw [i2]; with_reducible exact H) | (have H2_ := (Option.bind_some _ _).symm.trans H; rw [i2]; with_reducible exact H2_) | (have H2_ := (Option.bind_some _ _).symm.trans H; with_reducible exact H2_) | with_reducible exact H | (rw [i2]; exact H) | exact H
  have Y4 := a_ i2
  clear i2
  have H' := a_ H
  clear H
  have p17 : 0 ≤ (4 : Int) := (by omega)
  have q17 : (4 : Int) < ((t0.length : Int) : Int) := of_decide_eq_true hA_
  have qi17 : (4 < t0.length) = True := eq_true (by omega)
  obtain ⟨j4, o7, e3, g3, gl17, cl17, HG17⟩ := Kd.N_form P0.out (by omega)
  (first | cases e3 | (injection e3 with ea_ en_ ec_; (first | subst ea_ | (injection ea_ with ea_; subst ea_)); subst ec_; clear en_))
  have J3 := a_ g3
  have K3 := a_ HG17
  clear g3 gl17 HG17
  obtain ⟨ce17, hcl17, hM17, hcc17, hfr17⟩ := Kd.N_elem P0.out z37 (4 : Int) p17 q17
  obtain ⟨ua17_2, uc17_2, rfl, ul17_2, ge17_2⟩ := k37_openF hM17
  have h10 : w8.cell? ⟨j4, (4 : Int).toNat * 4, none⟩ = some (.int .i64 ((rd_T37 t0 4).f0)) := hcc17 0 _ rfl
  have h11 : w8.cell? ⟨j4, (4 : Int).toNat * 4 + 1, none⟩ = some (.int .i64 ((rd_T37 t0 4).f1)) := hcc17 1 _ rfl
  have h12 : w8.cell? ⟨j4, (4 : Int).toNat * 4 + 2, none⟩ = some (.slice ua17_2 ((rd_T37 t0 4).f2).length uc17_2) := hcc17 2 _ rfl
  have h13 : w8.cell? ⟨j4, (4 : Int).toNat * 4 + 3, none⟩ = some (.string ((rd_T37 t0 4).f3)) := hcc17 3 _ rfl
  have hf17_0 : w8.frozen? ⟨j4, (4 : Int).toNat * 4, none⟩ = false := hfr17 0
  have hf17_1 : w8.frozen? ⟨j4, (4 : Int).toNat * 4 + 1, none⟩ = false := hfr17 1
  have hf17_2 : w8.frozen? ⟨j4, (4 : Int).toNat * 4 + 2, none⟩ = false := hfr17 2
  have hf17_3 : w8.frozen? ⟨j4, (4 : Int).toNat * 4 + 3, none⟩ = false := hfr17 3
  clear hcl17 hcc17 hfr17 hM17
  (try rw [show ((4 : Int)).toNat = 4 from rfl] at h10)
  (try simp only [Nat.reduceMul, Nat.zero_mul, Nat.zero_add, Nat.reduceAdd] at h10)
  (try rw [show ((4 : Int)).toNat = 4 from rfl] at hf17_0)
  (try simp only [Nat.reduceMul, Nat.zero_mul, Nat.zero_add, Nat.reduceAdd] at hf17_0)
  (try rw [show ((4 : Int)).toNat = 4 from rfl] at h11)
  (try simp only [Nat.reduceMul, Nat.zero_mul, Nat.zero_add, Nat.reduceAdd] at h11)
  (try rw [show ((4 : Int)).toNat = 4 from rfl] at hf17_1)
  (try simp only [Nat.reduceMul, Nat.zero_mul, Nat.zero_add, Nat.reduceAdd] at hf17_1)
  (try rw [show ((4 : Int)).toNat = 4 from rfl] at h12)
  (try simp only [Nat.reduceMul, Nat.zero_mul, Nat.zero_add, Nat.reduceAdd] at h12)
  (try rw [show ((4 : Int)).toNat = 4 from rfl] at hf17_2)
  (try simp only [Nat.reduceMul, Nat.zero_mul, Nat.zero_add, Nat.reduceAdd] at hf17_2)
  (try rw [show ((4 : Int)).toNat = 4 from rfl] at h13)
  (try simp only [Nat.reduceMul, Nat.zero_mul, Nat.zero_add, Nat.reduceAdd] at h13)
  (try rw [show ((4 : Int)).toNat = 4 from rfl] at hf17_3)
  (try simp only [Nat.reduceMul, Nat.zero_mul, Nat.zero_add, Nat.reduceAdd] at hf17_3)
  replace p17 := eq_true p17
  replace q17 := eq_true q17
  have X2 := a_ (show Kd.N k37 37 w8 w.heap.size (fun _ => True) (.slice (some ⟨j4, 0, none⟩) t0.length o7) t0 from (hN_ P0.out))
  obtain ⟨ce18, hcl18, hM18, hcc18, hfr18⟩ := Kd.N_elem X2.out z37 (4 : Int) (by omega) (by have h_ : (4 : Int) < ((t0.length : Int) : Int) := of_decide_eq_true hA_; first | exact h_ | (have e_ := (Kd.N_reads' P0.out).1; omega) | simpa using h_)
  obtain ⟨ua18_2, uc18_2, rfl, ul18_2, ge18_2⟩ := k37_openF hM18
  have HP18 := Kd.N_seg X2.out (4 : Int) (by omega) (by have h_ : (4 : Int) < ((t0.length : Int) : Int) := of_decide_eq_true hA_; first | exact h_ | (have e_ := (Kd.N_reads' P0.out).1; omega) | simpa using h_) (seg := [.int .i64 4]) (j := 1) hcl18 hcc18 (show 2 ≤ 4 from by decide) (x' := (⟨(rd_T37 t0 4).f0, 4, (rd_T37 t0 4).f2, (rd_T37 t0 4).f3⟩ : S37)) (k37_mkF _ _ (⟨(rd_T37 t0 4).f0, 4, (rd_T37 t0 4).f2, (rd_T37 t0 4).f3⟩ : S37) ul18_2 ge18_2) (fun _ hk => hk)
  have h5 := hcc18 1 _ rfl
  (try simp only [show (k37).sz = 4 from rfl, Nat.mul_one, Nat.add_zero] at h5)
  (try rw [show ((4 : Int)).toNat = 4 from rfl] at h5)
  (try simp only [Nat.reduceMul, Nat.zero_mul, Nat.zero_add, Nat.reduceAdd] at h5)
  have hf18_1 := hfr18 1
  (try simp only [show (k37).sz = 4 from rfl, Nat.mul_one, Nat.add_zero] at hf18_1)
  (try rw [show ((4 : Int)).toNat = 4 from rfl] at hf18_1)
  (try simp only [Nat.reduceMul, Nat.zero_mul, Nat.zero_add, Nat.reduceAdd] at hf18_1)
  clear hcl18 hcc18 hfr18 hM18
  go_wp2_with (first | ((with_reducible refine gate_store (t := 3) (p := 36) rfl ?_); refine store_event (t := 3) (p := 36) (v := ?vo_w19) (w1 := (w8.setCell ⟨j4, 17, none⟩ (.int .i64 4))) ?hg ?ho ?hn ?hr ?_; (case ho => rfl); (case hg => rfl); (case hn => rfl); (case hr => first | (go_simp; done) | (go_simp; rfl)); intro w3 hw; have hg : w8.grownBy w3 (some j4) := (by rw [hw]; exact HP18.2); have hp_ : Kd.N k37 37 w3 w.heap.size (fun _ => True) (.slice (some ⟨j4, 0, none⟩) t0.length o7) y3 := (by rw [hw, Y4.out]; exact HP18.1); clear HP18; replace P0 := a_ (hp_); replace HB := a_ ((by rw [hw]; exact below_set (HB.out) J3.out : Below w.heap.size w w3)); clear hg hw hp_))
  go_meet
  case rel => exact ⟨_, (y3), H', ⟨by first | omega | exact Nat.le_refl _⟩, ⟨hN_ P0.out⟩, ⟨hC_⟩⟩
 case rest =>
  clear HC6
  try clear c1
  try clear p1
  try clear q1
  try clear hx1
  try clear qi1
  try clear c2
  try clear p2
  try clear q2
  try clear hx2
  try clear hf2
  try clear c4
  try clear c7
  try clear c9
  try clear c9b0
  try clear c9b1
  try clear c10
  try clear c10b0
  try clear c10b1
  try clear c11
  try clear c11b0
  try clear c11b1
  try clear c12
  try clear p12
  try clear q12
  try clear h23
  try clear qi12
  try clear hf12
  try clear c13
  try clear h24
  try clear hf13
  try clear c15
  try clear c15b0
  try clear c15b1
  try clear c16
  try clear c16b0
  try clear c16b1
  try clear c17
  try clear p17
  try clear q17
  try clear h25
  try clear qi17
  try clear hf17
  try clear c18
  try clear h26
  try clear hf18
  try clear c20
  try clear c20b0
  try clear c21
  try clear c21b0
  try clear c22
  try clear p22
  try clear q22
  try clear h27
  try clear hf22
  try clear c23
  try clear h28
  try clear hf23
  try clear h6
  try clear h7
  try clear h8
  try clear h9
  try clear h4
  try clear h10
  try clear h11
  try clear h12
  try clear h13
  try clear h5
  try clear h15
  try clear h16
  try clear h17
  try clear h18
  try clear h14
  try clear p12
  try clear p17
  try clear p22
  try clear q12
  try clear q17
  try clear q22
  obtain ⟨kq, x4, HA, HJ5, O1, HB⟩ := hcut
  cases kq with
  | zero => exact absurd HA.out (by simp [sleuthlaw17_FileForms.j0])
  | succ kj5 =>
   have H := HA.out
   clear HA
   simp only [sleuthlaw17_FileForms.j0] at H
   replace H := Option.bind_eq_some_iff.mp H
   obtain ⟨⟨t2, t4⟩, A250, H⟩ := H
   try dsimp only at H
   have A25 := a_ A250
   clear A250
   have H' := a_ H
   clear H
   obtain ⟨a2, o9, e5⟩ := Kd.N_slice O1.out
   subst e5
   go_wp2_with (first | ((with_reducible refine gate_callee (f := 8) rfl ?_); refine goesL_ (some 39) rfl rfl Tryd.func8 (by kernel_rfl) rfl #[.slice a2 x4.length o9] rfl hL_ ?_; (with_reducible refine (file_Text.calls kj5 _ _ x4 t2 t4 _ ?s1 ?s2 A25.out hG_).mono ?_); (case s1 => repeat (first | exact (Kd.N_reads' O1.out).2.2 | (with_reducible refine Kd.C_alloc ?_ _) | (with_reducible refine Kd.C_drewN ?_ _) | (with_reducible refine Kd.C_drew ?_))); (case s2 => exact (Kd.N_reads' O1.out).2.1); rintro e w27 ⟨rfl, hb⟩; refine ⟨_, rfl, ?_⟩; replace O1 := a_ (Kd.N_below (hN_ O1.out) hb); replace HB := a_ (below_step hB_ hb); (try clear hb); (try clear hb2); (try clear hk); (try clear hi)))
   go_loopg [8, 9] kj5 (fun kq v8 v9 w' => ∃ (x2 : ByteArray) (x3 : Int), v8 = .string x2 ∧ v9 = .int .i64 x3 ∧ Aside0 (sleuthlaw17_FileForms.l0 kq a1 t2 t4 x2 x3 = some r) ∧ Aside0 (kq ≤ kj5) ∧ Aside0 (Below w.heap.size w w'))
   case atStart => exact ⟨((⟨#[49]⟩ : ByteArray)), (0), hW_, hW_, H', ⟨Nat.le_refl _⟩, ⟨hC_⟩⟩
   case round =>
    clear H'
    try clear c1
    try clear p1
    try clear q1
    try clear hx1
    try clear qi1
    try clear c2
    try clear p2
    try clear q2
    try clear hx2
    try clear hf2
    try clear c4
    try clear c7
    try clear c8
    try clear c9
    try clear c9b0
    try clear c9b1
    try clear c10
    try clear c10b0
    try clear c10b1
    try clear c11
    try clear c11b0
    try clear c11b1
    try clear c12
    try clear p12
    try clear q12
    try clear h23
    try clear qi12
    try clear hf12
    try clear c13
    try clear h24
    try clear hf13
    try clear c15
    try clear c15b0
    try clear c15b1
    try clear c16
    try clear c16b0
    try clear c16b1
    try clear c17
    try clear p17
    try clear q17
    try clear h25
    try clear qi17
    try clear hf17
    try clear c18
    try clear h26
    try clear hf18
    try clear c20
    try clear c20b0
    try clear c21
    try clear c21b0
    try clear c22
    try clear p22
    try clear q22
    try clear h27
    try clear hf22
    try clear c23
    try clear h28
    try clear hf23
    try clear h6
    try clear h7
    try clear h8
    try clear h9
    try clear h4
    try clear h10
    try clear h11
    try clear h12
    try clear h13
    try clear h5
    try clear h15
    try clear h16
    try clear h17
    try clear h18
    try clear h14
    try clear p1
    try clear p12
    try clear p17
    try clear p2
    try clear p22
    try clear q1
    try clear q12
    try clear q17
    try clear q2
    try clear q22
    obtain ⟨x2, x3, rfl, rfl, HA, HK2, HB⟩ := hrel
    cases gk with
    | zero => exact absurd HA.out (by simp [sleuthlaw17_FileForms.l0])
    | succ k2 =>
     have H := HA.out
     clear HA
     simp only [sleuthlaw17_FileForms.l0] at H
     by_cases c28 : x3 < 250
     case pos =>
      rw [if_pos c28] at H
      have c28b0 : decide (x3 < 250) = true := decide_eq_true c28
      clear c28
      replace H := ifI_ H; obtain ⟨c29, H⟩ := H
      have c29b0 := eq_true c29
      have c29b1 : decide (3 + x2.size ≤ 9223372036854775807) = true := decide_eq_true c29
      try have c29b2 : (9223372036854775807 < 3 + x2.size) = False := eq_false (Nat.not_lt.2 c29)
      replace H := ifI_ H; obtain ⟨c30, H⟩ := H
      have c30b0 := eq_true c30
      have c30b1 : decide (((⟨#[64, 49, 40]⟩ : ByteArray) ++ x2).size + 1 ≤ 9223372036854775807) = true := decide_eq_true c30
      try have c30b2 : (9223372036854775807 < ((⟨#[64, 49, 40]⟩ : ByteArray) ++ x2).size + 1) = False := eq_false (Nat.not_lt.2 c30)
      try have c30b3 : (9223372036854775807 < 3 + x2.size + 1) = False := eq_false (Nat.not_lt.2 (by have h_ := c30; simp only [ByteArray.size_append, ByteArray.size_extract, Nat.min_self, show (⟨#[64, 49, 40]⟩ : ByteArray).size = 3 from rfl] at h_; omega))
      have H' := a_ H
      clear H
      go_wp2
      go_roundg k2
      case measure => have := HJ5.out; have := HK2.out; omega
      case rel => exact ⟨(((⟨#[64, 49, 40]⟩ : ByteArray) ++ x2) ++ (⟨#[41]⟩ : ByteArray)), (wrap64 (x3 + 1)), hW_, hW_, H', ⟨by have := HJ5.out; have := HK2.out; omega⟩, ⟨hC_⟩⟩
     rw [if_neg c28] at H
     have c28b0 : decide (x3 < 250) = false := decide_eq_false c28
     clear c28
     obtain ⟨ji31, hji31⟩ : ∃ j_ : Int, (wrap64 (60 + (Go.bits .and .i64 a1 31))) = j_ := ⟨_, rfl⟩
     replace H : (if 0 ≤ (ji31) then (if (ji31 : Int).toNat ≤ 5026338869833 then (sleuthlaw17_FileForms.l1 k2 t2 t4 x2 (List.replicate (ji31 : Int).toNat z37) 0) else (none)) else (none)) = some r := by first | (rw [hji31] at H; exact H) | (simp only [hji31] at H ⊢; exact H)
     have hji31w : (IntKind.i64.wrap (60 + (Go.bits .and .i64 a1 31))) = ji31 := (i64_w _).trans hji31
     replace H := ifI_ H; obtain ⟨c32, H⟩ := H
     have c32b0 := eq_true c32
     have c32b1 : decide (0 ≤ (ji31)) = true := decide_eq_true c32
     clear c32
     replace H := ifI_ H; obtain ⟨c33, H⟩ := H
     have c33b0 := eq_true c33
     have c33b1 : decide ((ji31 : Int).toNat ≤ 5026338869833) = true := decide_eq_true c33
     clear c33
     obtain ⟨y5, i3⟩ : ∃ y_ : List (S37), y_ = (List.replicate (ji31 : Int).toNat z37) := ⟨_, rfl⟩
     replace H : (sleuthlaw17_FileForms.l1 k2 t2 t4 x2 y5 0) = some r := by first | (rw [i3]; with_reducible exact H) | (have H2_ := (Option.bind_some _ _).symm.trans H; rw [i3]; with_reducible exact H2_) | (have H2_ := (Option.bind_some _ _).symm.trans H; with_reducible exact H2_) | with_reducible exact H | (rw [i3]; exact H) | exact H
     have Y1 := a_ i3
     clear i3
     have H' := a_ H
     clear H
     go_wp2_with (first | ((with_reducible refine gate_dst (N := 52) rfl ?_); (try (refine gate_guard (by rfl) ?_; dsimp only)); refine Kd.N_make k37 _ 37 rfl (N' := 52) rfl 22 _ _ rfl ji31 rfl rfl Tryd.underlying22 (.agg #[(.int .i64 0), (.int .i64 0), (.slice none 0 0), (.string ⟨#[]⟩)]) 56 info37 rfl (by decide) (by omega) z37 (ok := fun k_ => wr.heap.size ≤ k_) (okp := fun _ => False) (k37_mkF _ _ z37 (Nat.le_refl _) (Kd.F_nil _ _ _)) (fun _ hk => hk.elim) (Nat.le_refl _) (of_decide_eq_true hA_) (Nat.le_trans (Nat.mul_le_mul_right _ (of_decide_eq_true hA_ : ji31.toNat ≤ 5026338869833)) (by omega)) (Below.refl _ _) (Nat.le_refl _) ?_; intro v0 w34 ho35 hb hg_ hnew_; clear hg_ hnew_; (first | rw [← Y1.out] at ho35 | (simp only [Int.reduceToNat] at ho35; rw [← Y1.out] at ho35)); have P1 := a_ (Kd.N_lower (Kd.N_mono (ok' := fun k_ => True) ho35 (fun k_ hk_ => trivial)) hS_); replace HB := a_ (below_step hB_ hb); clear hb ho35))
     go_loopg [11] k2 (fun kq v1 w' => ∃ (x0 : List (S37)) (x1 : Int), v1 = .int .i64 x1 ∧ Aside0 (sleuthlaw17_FileForms.l1 kq t2 t4 x2 x0 x1 = some r) ∧ Aside0 (kq ≤ k2) ∧ Aside0 (Kd.N k37 37 w' w.heap.size (fun _ => True) v0 x0) ∧ Aside0 (Below w.heap.size w w'))
     case atStart => exact ⟨(y5), (0), hW_, H', ⟨Nat.le_refl _⟩, ⟨hN_ P1.out⟩, ⟨hC_⟩⟩
     case round =>
      clear H'
      try clear c1
      try clear p1
      try clear q1
      try clear hx1
      try clear qi1
      try clear c2
      try clear p2
      try clear q2
      try clear hx2
      try clear hf2
      try clear c3
      try clear c4
      try clear p6
      try clear c7
      try clear c8
      try clear c9
      try clear c9b0
      try clear c9b1
      try clear c10
      try clear c10b0
      try clear c10b1
      try clear c11
      try clear c11b0
      try clear c11b1
      try clear c12
      try clear p12
      try clear q12
      try clear h23
      try clear qi12
      try clear hf12
      try clear c13
      try clear h24
      try clear hf13
      try clear c15
      try clear c15b0
      try clear c15b1
      try clear c16
      try clear c16b0
      try clear c16b1
      try clear c17
      try clear p17
      try clear q17
      try clear h25
      try clear qi17
      try clear hf17
      try clear c18
      try clear h26
      try clear hf18
      try clear c20
      try clear c20b0
      try clear c21
      try clear c21b0
      try clear c22
      try clear p22
      try clear q22
      try clear h27
      try clear hf22
      try clear c23
      try clear h28
      try clear hf23
      try clear c28
      try clear c28b0
      try clear c29
      try clear c29b0
      try clear c29b1
      try clear c29b2
      try clear c30
      try clear c30b0
      try clear c30b1
      try clear c30b2
      try clear c32
      try clear c32b0
      try clear c32b1
      try clear c33
      try clear c33b0
      try clear c33b1
      try clear hji31
      try clear hji31w
      try clear h6
      try clear h7
      try clear h8
      try clear h9
      try clear h4
      try clear h10
      try clear h11
      try clear h12
      try clear h13
      try clear h5
      try clear h15
      try clear h16
      try clear h17
      try clear h18
      try clear h14
      try clear p1
      try clear p12
      try clear p17
      try clear p2
      try clear p22
      try clear q1
      try clear q12
      try clear q17
      try clear q2
      try clear q22
      obtain ⟨x0, x1, rfl, HA, HK3, O0, HB⟩ := hrel
      cases gk with
      | zero => exact absurd HA.out (by simp [sleuthlaw17_FileForms.l1])
      | succ k3 =>
       have H := HA.out
       clear HA
       simp only [sleuthlaw17_FileForms.l1] at H
       by_cases c36 : x1 < (x0.length : Int)
       case pos =>
        rw [if_pos c36] at H
        have c36b0 : decide (x1 < (x0.length : Int)) = true := decide_eq_true c36
        clear c36
        replace H := ifI_ H; obtain ⟨c37, H⟩ := H
        have c37b0 : decide (0 ≤ x1) = true := decide_eq_true c37
        clear c37
        obtain ⟨y4, i4⟩ : ∃ y_ : List (S37), y_ = (x0.set (x1 : Int).toNat (⟨(rd_T37 x0 x1).f0, (rd_T37 x0 x1).f1, (rd_T37 x0 x1).f2, x2⟩ : S37)) := ⟨_, rfl⟩
        replace H : (sleuthlaw17_FileForms.l1 k3 t2 t4 x2 y4 (wrap64 (x1 + 1))) = some r := by first | (rw [i4]; with_reducible exact H) | (have H2_ := (Option.bind_some _ _).symm.trans H; rw [i4]; with_reducible exact H2_) | (have H2_ := (Option.bind_some _ _).symm.trans H; with_reducible exact H2_) | with_reducible exact H | (rw [i4]; exact H) | exact H
        have Y5 := a_ i4
        clear i4
        have H' := a_ H
        clear H
        obtain ⟨a3, o8, e6⟩ := Kd.N_slice O0.out
        subst e6
        have p38 : 0 ≤ (x1 : Int) := of_decide_eq_true hA_
        have q38 : (x1 : Int) < ((x0.length : Int) : Int) := of_decide_eq_true hA_
        obtain ⟨j5, o10, e4, g4, gl38, cl38, HG38⟩ := Kd.N_form O0.out (by omega)
        (first | cases e4 | (injection e4 with ea_ en_ ec_; (first | subst ea_ | (injection ea_ with ea_; subst ea_)); subst ec_; clear en_))
        have J4 := a_ g4
        have K4 := a_ HG38
        clear g4 gl38 HG38
        obtain ⟨ce38, hcl38, hM38, hcc38, hfr38⟩ := Kd.N_elem O0.out z37 (x1 : Int) p38 q38
        obtain ⟨ua38_2, uc38_2, rfl, ul38_2, ge38_2⟩ := k37_openF hM38
        have h30 : wr.cell? ⟨j5, (x1 : Int).toNat * 4, none⟩ = some (.int .i64 ((rd_T37 x0 x1).f0)) := hcc38 0 _ rfl
        have h31 : wr.cell? ⟨j5, (x1 : Int).toNat * 4 + 1, none⟩ = some (.int .i64 ((rd_T37 x0 x1).f1)) := hcc38 1 _ rfl
        have h32 : wr.cell? ⟨j5, (x1 : Int).toNat * 4 + 2, none⟩ = some (.slice ua38_2 ((rd_T37 x0 x1).f2).length uc38_2) := hcc38 2 _ rfl
        have h33 : wr.cell? ⟨j5, (x1 : Int).toNat * 4 + 3, none⟩ = some (.string ((rd_T37 x0 x1).f3)) := hcc38 3 _ rfl
        have hf38_0 : wr.frozen? ⟨j5, (x1 : Int).toNat * 4, none⟩ = false := hfr38 0
        have hf38_1 : wr.frozen? ⟨j5, (x1 : Int).toNat * 4 + 1, none⟩ = false := hfr38 1
        have hf38_2 : wr.frozen? ⟨j5, (x1 : Int).toNat * 4 + 2, none⟩ = false := hfr38 2
        have hf38_3 : wr.frozen? ⟨j5, (x1 : Int).toNat * 4 + 3, none⟩ = false := hfr38 3
        clear hcl38 hcc38 hfr38 hM38
        replace p38 := eq_true p38
        replace q38 := eq_true q38
        have X3 := a_ (show Kd.N k37 37 wr w.heap.size (fun _ => True) (.slice (some ⟨j5, 0, none⟩) x0.length o8) x0 from (hN_ O0.out))
        obtain ⟨ce40, hcl40, hM40, hcc40, hfr40⟩ := Kd.N_elem X3.out z37 (x1 : Int) (of_decide_eq_true hA_) (by have h_ : (x1 : Int) < ((x0.length : Int) : Int) := of_decide_eq_true hA_; first | exact h_ | (have e_ := (Kd.N_reads' O0.out).1; omega) | simpa using h_)
        obtain ⟨ua40_2, uc40_2, rfl, ul40_2, ge40_2⟩ := k37_openF hM40
        have HP40 := Kd.N_seg X3.out (x1 : Int) (of_decide_eq_true hA_) (by have h_ : (x1 : Int) < ((x0.length : Int) : Int) := of_decide_eq_true hA_; first | exact h_ | (have e_ := (Kd.N_reads' O0.out).1; omega) | simpa using h_) (seg := [.string x2]) (j := 3) hcl40 hcc40 (show 4 ≤ 4 from by decide) (x' := (⟨(rd_T37 x0 x1).f0, (rd_T37 x0 x1).f1, (rd_T37 x0 x1).f2, x2⟩ : S37)) (k37_mkF _ _ (⟨(rd_T37 x0 x1).f0, (rd_T37 x0 x1).f1, (rd_T37 x0 x1).f2, x2⟩ : S37) ul40_2 ge40_2) (fun _ hk => hk)
        have h29 := hcc40 3 _ rfl
        (try simp only [show (k37).sz = 4 from rfl, Nat.mul_one, Nat.add_zero] at h29)
        have hf40_3 := hfr40 3
        (try simp only [show (k37).sz = 4 from rfl, Nat.mul_one, Nat.add_zero] at hf40_3)
        clear hcl40 hcc40 hfr40 hM40
        go_wp2_with (first | ((with_reducible refine gate_store (t := 9) (p := 63) rfl ?_); refine store_event (t := 9) (p := 63) (v := ?vo_w41) (w1 := (wr.setCell ⟨j5, (x1 : Int).toNat * 4 + 3, none⟩ (.string x2))) ?hg ?ho ?hn ?hr ?_; (case ho => rfl); (case hg => rfl); (case hn => rfl); (case hr => first | (go_simp; done) | (go_simp; rfl)); intro w4 hw; have hg : wr.grownBy w4 (some j5) := (by rw [hw]; exact HP40.2); have hp_ : Kd.N k37 37 w4 w.heap.size (fun _ => True) (.slice (some ⟨j5, 0, none⟩) x0.length o8) y4 := (by rw [hw, Y5.out]; exact HP40.1); clear HP40; replace O0 := a_ (hp_); replace HB := a_ ((by rw [hw]; exact below_set (HB.out) J4.out : Below w.heap.size w w4)); clear hg hw hp_))
        go_roundg k3
        case measure => have := HJ5.out; have := HK2.out; have := HK3.out; omega
        case rel => exact ⟨(y4), (wrap64 (x1 + 1)), hW_, H', ⟨by have := HJ5.out; have := HK2.out; have := HK3.out; omega⟩, ⟨hN_ O0.out⟩, ⟨hC_⟩⟩
       rw [if_neg c36] at H
       have c36b0 : decide (x1 < (x0.length : Int)) = false := decide_eq_false c36
       clear c36
       replace H := ifI_ H; obtain ⟨c42, H⟩ := H
       have c42b0 : decide (0 < (x0.length : Int)) = true := decide_eq_true c42
       have c42b1 : decide (0 < x0.length) = true := decide_eq_true (by omega)
       clear c42
       obtain ⟨y0, i5⟩ : ∃ y_ : List (S37), y_ = (x0.set (0 : Int).toNat (⟨(rd_T37 x0 0).f0, (-1), (rd_T37 x0 0).f2, (rd_T37 x0 0).f3⟩ : S37)) := ⟨_, rfl⟩
       replace H : ((file_Text.f k3 y0).bind fun bt374 => (if t2.toList = ([] : List UInt8) then ((sleuthlaw0_Num.f t4).bind fun t5 => (if t5 = 1700 then (if (wrap64 (1013 * (x0.length : Int))) ≤ 65536 then ((sleuthlaw0_Num.f bt374.2).bind fun t3 => (if t3 = 0 then (if (bt374.1.size : Int) = (wrap64 (1013 * (x0.length : Int))) then (some true) else (if ((wrap64 (1013 * (x0.length : Int))) ≤ 65536) then (none) else (if bt374.1.toList = ([] : List UInt8) then (some (t3 == 1700)) else (none)))) else (if ((wrap64 (1013 * (x0.length : Int))) ≤ 65536) then (none) else (if bt374.1.toList = ([] : List UInt8) then (some (t3 == 1700)) else (none))))) else (if ((wrap64 (1013 * (x0.length : Int))) ≤ 65536) then (none) else (if bt374.1.toList = ([] : List UInt8) then ((sleuthlaw0_Num.f bt374.2).bind fun t7 => (some (t7 == 1700))) else (none)))) else (none))) else (none))) = some r := by first | (rw [i5]; with_reducible exact H) | (have H2_ := (Option.bind_some _ _).symm.trans H; rw [i5]; with_reducible exact H2_) | (have H2_ := (Option.bind_some _ _).symm.trans H; with_reducible exact H2_) | with_reducible exact H | (rw [i5]; exact H) | exact H
       have Y0 := a_ i5
       clear i5
       replace H := Option.bind_eq_some_iff.mp H
       obtain ⟨⟨t1, t6⟩, A440, H⟩ := H
       try dsimp only at H
       have A44 := a_ A440
       clear A440
       by_cases c45 : t2.toList = ([] : List UInt8)
       case neg =>
        rw [if_neg c45] at H
        have c45b0 : (t2.toList == ([] : List UInt8)) = false := beq_eq_false_iff_ne.mpr c45
        have c45b1 : (t2.toList != ([] : List UInt8)) = true := bne_iff_ne.mpr c45
        cases H
       rw [if_pos c45] at H
       have c45b0 : (t2.toList == ([] : List UInt8)) = true := beq_iff_eq.mpr c45
       have c45b1 : (t2.toList != ([] : List UInt8)) = false := bne_eq_false_iff_eq.mpr c45
       clear c45
       replace H := Option.bind_eq_some_iff.mp H
       obtain ⟨t5, A460, H⟩ := H
       try dsimp only at H
       have A46 := a_ A460
       clear A460
       by_cases c47 : t5 = 1700
       case neg =>
        rw [if_neg c47] at H
        have c47b0 : (t5 == 1700) = false := beq_eq_false_iff_ne.mpr c47
        have c47b1 : (t5 != 1700) = true := bne_iff_ne.mpr c47
        cases H
       rw [if_pos c47] at H
       have c47b0 : (t5 == 1700) = true := beq_iff_eq.mpr c47
       have c47b1 : (t5 != 1700) = false := bne_eq_false_iff_eq.mpr c47
       clear c47
       by_cases c48 : (wrap64 (1013 * (x0.length : Int))) ≤ 65536
       case neg =>
        rw [if_neg c48] at H
        have c48b0 : decide ((wrap64 (1013 * (x0.length : Int))) ≤ 65536) = false := decide_eq_false c48
        (try (have c48b0w := c48b0; (rw [show wrap64 (1013 * (x0.length : Int)) = (1013 * (x0.length : Int)) from by unfold wrap64; omega] at c48b0w)))
        clear c48
        by_cases c84 : ((wrap64 (1013 * (x0.length : Int))) ≤ 65536)
        case pos =>
         rw [if_pos c84] at H
         have c84b0 : decide ((wrap64 (1013 * (x0.length : Int))) ≤ 65536) = true := decide_eq_true c84
         (try (have c84b0w := c84b0; (rw [show wrap64 (1013 * (x0.length : Int)) = (1013 * (x0.length : Int)) from by unfold wrap64; omega] at c84b0w)))
         clear c84
         cases H
        rw [if_neg c84] at H
        have c84b0 : decide ((wrap64 (1013 * (x0.length : Int))) ≤ 65536) = false := decide_eq_false c84
        (try (have c84b0w := c84b0; (rw [show wrap64 (1013 * (x0.length : Int)) = (1013 * (x0.length : Int)) from by unfold wrap64; omega] at c84b0w)))
        clear c84
        by_cases c89 : t1.toList = ([] : List UInt8)
        case neg =>
         rw [if_neg c89] at H
         have c89b0 : (t1.toList == ([] : List UInt8)) = false := beq_eq_false_iff_ne.mpr c89
         have c89b1 : (t1.toList != ([] : List UInt8)) = true := bne_iff_ne.mpr c89
         cases H
        rw [if_pos c89] at H
        have c89b0 : (t1.toList == ([] : List UInt8)) = true := beq_iff_eq.mpr c89
        have c89b1 : (t1.toList != ([] : List UInt8)) = false := bne_eq_false_iff_eq.mpr c89
        clear c89
        replace H := Option.bind_eq_some_iff.mp H
        obtain ⟨t7, A900, H⟩ := H
        try dsimp only at H
        have A90 := a_ A900
        clear A900
        obtain rfl := Option.some.inj H
        obtain ⟨a4, o0, e7⟩ := Kd.N_slice O0.out
        subst e7
        have p43 : 0 ≤ (0 : Int) := (by omega)
        have q43 : (0 : Int) < ((x0.length : Int) : Int) := of_decide_eq_true hA_
        have qi43 : (0 < x0.length) = True := eq_true (by omega)
        obtain ⟨j1, o1, e0, g0, gl43, cl43, HG43⟩ := Kd.N_form O0.out (by omega)
        (first | cases e0 | (injection e0 with ea_ en_ ec_; (first | subst ea_ | (injection ea_ with ea_; subst ea_)); subst ec_; clear en_))
        have J0 := a_ g0
        have K0 := a_ HG43
        clear g0 gl43 HG43
        obtain ⟨ce43, hcl43, hM43, hcc43, hfr43⟩ := Kd.N_elem O0.out z37 (0 : Int) p43 q43
        obtain ⟨ua43_2, uc43_2, rfl, ul43_2, ge43_2⟩ := k37_openF hM43
        have h0 : wr.cell? ⟨j1, (0 : Int).toNat * 4, none⟩ = some (.int .i64 ((rd_T37 x0 0).f0)) := hcc43 0 _ rfl
        have h1 : wr.cell? ⟨j1, (0 : Int).toNat * 4 + 1, none⟩ = some (.int .i64 ((rd_T37 x0 0).f1)) := hcc43 1 _ rfl
        have h2 : wr.cell? ⟨j1, (0 : Int).toNat * 4 + 2, none⟩ = some (.slice ua43_2 ((rd_T37 x0 0).f2).length uc43_2) := hcc43 2 _ rfl
        have h3 : wr.cell? ⟨j1, (0 : Int).toNat * 4 + 3, none⟩ = some (.string ((rd_T37 x0 0).f3)) := hcc43 3 _ rfl
        have hf43_0 : wr.frozen? ⟨j1, (0 : Int).toNat * 4, none⟩ = false := hfr43 0
        have hf43_1 : wr.frozen? ⟨j1, (0 : Int).toNat * 4 + 1, none⟩ = false := hfr43 1
        have hf43_2 : wr.frozen? ⟨j1, (0 : Int).toNat * 4 + 2, none⟩ = false := hfr43 2
        have hf43_3 : wr.frozen? ⟨j1, (0 : Int).toNat * 4 + 3, none⟩ = false := hfr43 3
        clear hcl43 hcc43 hfr43 hM43
        (try rw [show ((0 : Int)).toNat = 0 from rfl] at h0)
        (try simp only [Nat.reduceMul, Nat.zero_mul, Nat.zero_add, Nat.reduceAdd] at h0)
        (try rw [show ((0 : Int)).toNat = 0 from rfl] at hf43_0)
        (try simp only [Nat.reduceMul, Nat.zero_mul, Nat.zero_add, Nat.reduceAdd] at hf43_0)
        (try rw [show ((0 : Int)).toNat = 0 from rfl] at h1)
        (try simp only [Nat.reduceMul, Nat.zero_mul, Nat.zero_add, Nat.reduceAdd] at h1)
        (try rw [show ((0 : Int)).toNat = 0 from rfl] at hf43_1)
        (try simp only [Nat.reduceMul, Nat.zero_mul, Nat.zero_add, Nat.reduceAdd] at hf43_1)
        (try rw [show ((0 : Int)).toNat = 0 from rfl] at h2)
        (try simp only [Nat.reduceMul, Nat.zero_mul, Nat.zero_add, Nat.reduceAdd] at h2)
        (try rw [show ((0 : Int)).toNat = 0 from rfl] at hf43_2)
        (try simp only [Nat.reduceMul, Nat.zero_mul, Nat.zero_add, Nat.reduceAdd] at hf43_2)
        (try rw [show ((0 : Int)).toNat = 0 from rfl] at h3)
        (try simp only [Nat.reduceMul, Nat.zero_mul, Nat.zero_add, Nat.reduceAdd] at h3)
        (try rw [show ((0 : Int)).toNat = 0 from rfl] at hf43_3)
        (try simp only [Nat.reduceMul, Nat.zero_mul, Nat.zero_add, Nat.reduceAdd] at hf43_3)
        replace p43 := eq_true p43
        replace q43 := eq_true q43
        have X4 := a_ (show Kd.N k37 37 wr w.heap.size (fun _ => True) (.slice (some ⟨j1, 0, none⟩) x0.length o0) x0 from (hN_ O0.out))
        obtain ⟨ce92, hcl92, hM92, hcc92, hfr92⟩ := Kd.N_elem X4.out z37 (0 : Int) (by omega) (by have h_ : (0 : Int) < ((x0.length : Int) : Int) := of_decide_eq_true hA_; first | exact h_ | (have e_ := (Kd.N_reads' O0.out).1; omega) | simpa using h_)
        obtain ⟨ua92_2, uc92_2, rfl, ul92_2, ge92_2⟩ := k37_openF hM92
        have HP92 := Kd.N_seg X4.out (0 : Int) (by omega) (by have h_ : (0 : Int) < ((x0.length : Int) : Int) := of_decide_eq_true hA_; first | exact h_ | (have e_ := (Kd.N_reads' O0.out).1; omega) | simpa using h_) (seg := [.int .i64 (-1)]) (j := 1) hcl92 hcc92 (show 2 ≤ 4 from by decide) (x' := (⟨(rd_T37 x0 0).f0, (-1), (rd_T37 x0 0).f2, (rd_T37 x0 0).f3⟩ : S37)) (k37_mkF _ _ (⟨(rd_T37 x0 0).f0, (-1), (rd_T37 x0 0).f2, (rd_T37 x0 0).f3⟩ : S37) ul92_2 ge92_2) (fun _ hk => hk)
        have h19 := hcc92 1 _ rfl
        (try simp only [show (k37).sz = 4 from rfl, Nat.mul_one, Nat.add_zero] at h19)
        (try rw [show ((0 : Int)).toNat = 0 from rfl] at h19)
        (try simp only [Nat.reduceMul, Nat.zero_mul, Nat.zero_add, Nat.reduceAdd] at h19)
        have hf92_1 := hfr92 1
        (try simp only [show (k37).sz = 4 from rfl, Nat.mul_one, Nat.add_zero] at hf92_1)
        (try rw [show ((0 : Int)).toNat = 0 from rfl] at hf92_1)
        (try simp only [Nat.reduceMul, Nat.zero_mul, Nat.zero_add, Nat.reduceAdd] at hf92_1)
        clear hcl92 hcc92 hfr92 hM92
        go_wp2_with (first | ((with_reducible refine gate_store (t := 3) (p := 66) rfl ?_); refine store_event (t := 3) (p := 66) (v := ?vo_w93) (w1 := (wr.setCell ⟨j1, 1, none⟩ (.int .i64 (-1)))) ?hg ?ho ?hn ?hr ?_; (case ho => rfl); (case hg => rfl); (case hn => rfl); (case hr => first | (go_simp; done) | (go_simp; rfl)); intro w5 hw; have hg : wr.grownBy w5 (some j1) := (by rw [hw]; exact HP92.2); have hp_ : Kd.N k37 37 w5 w.heap.size (fun _ => True) (.slice (some ⟨j1, 0, none⟩) x0.length o0) y0 := (by rw [hw, Y0.out]; exact HP92.1); clear HP92; replace O0 := a_ (hp_); replace HB := a_ ((by rw [hw]; exact below_set (HB.out) J0.out : Below w.heap.size w w5)); clear hg hw hp_) | ((with_reducible refine gate_callee (f := 8) rfl ?_); refine goesL_ _ rfl rfl Tryd.func8 (by kernel_rfl) rfl #[.slice (some ⟨j1, 0, none⟩) y0.length o0] rfl (by (try simp only [List.map_toArray, List.map_cons, List.map_nil]); first | done | (rw [show y0.length = x0.length from (Kd.N_reads' O0.out).1.symm] <;> rfl) | rfl | (simp only [List.length_drop, List.length_take]; rfl)) ?_; (with_reducible refine (file_Text.calls k3 _ _ y0 t1 t6 _ ?s1 ?s2 A44.out hG_).mono ?_); (case s1 => repeat (first | exact (Kd.N_reads' O0.out).2.2 | (with_reducible refine Kd.C_alloc ?_ _) | (with_reducible refine Kd.C_drewN ?_ _) | (with_reducible refine Kd.C_drew ?_))); (case s2 => rw [show y0.length = x0.length from (Kd.N_reads' O0.out).1.symm]; exact (Kd.N_reads' O0.out).2.1); rintro e w94 ⟨rfl, hb⟩; refine ⟨_, rfl, ?_⟩; replace O0 := a_ (Kd.N_below (hN_ O0.out) hb); replace HB := a_ (below_step hB_ hb); (try clear hb); (try clear hb2); (try clear hk); (try clear hi)) | (go_at_call 9; (with_reducible refine (sleuthlaw0_Num.calls t4 t5 _ A46.out).mono ?_); rintro e w' ⟨rfl, ⟨nd, rfl⟩⟩) | (go_at_call 9; (with_reducible refine (sleuthlaw0_Num.calls t6 t7 _ A90.out).mono ?_); rintro e w' ⟨rfl, ⟨nd, rfl⟩⟩))
        go_ret
        first | (exfalso; have FX_ := ‹decide (wrap64 (1013 * (x0.length : Int)) ≤ 65536) = true›; have FY_ := ‹decide (wrap64 (1013 * (x0.length : Int)) ≤ 65536) = false›; rw [FX_] at FY_; cases FY_) | exact ⟨by first | rfl | (simp [errW_none, errW_some] <;> rfl) | (simp only [← hji31]; first | rfl | (simp [errW_none, errW_some] <;> rfl)) | (simp [*, errW_none, errW_some] <;> rfl), hC_⟩
       rw [if_pos c48] at H
       have c48b0 : decide ((wrap64 (1013 * (x0.length : Int))) ≤ 65536) = true := decide_eq_true c48
       (try (have c48b0w := c48b0; (rw [show wrap64 (1013 * (x0.length : Int)) = (1013 * (x0.length : Int)) from by unfold wrap64; omega] at c48b0w)))
       clear c48
       replace H := Option.bind_eq_some_iff.mp H
       obtain ⟨t3, A490, H⟩ := H
       try dsimp only at H
       have A49 := a_ A490
       clear A490
       by_cases c50 : t3 = 0
       case neg =>
        rw [if_neg c50] at H
        have c50b0 : (t3 == 0) = false := beq_eq_false_iff_ne.mpr c50
        have c50b1 : (t3 != 0) = true := bne_iff_ne.mpr c50
        by_cases c70 : ((wrap64 (1013 * (x0.length : Int))) ≤ 65536)
        case pos =>
         rw [if_pos c70] at H
         have c70b0 : decide ((wrap64 (1013 * (x0.length : Int))) ≤ 65536) = true := decide_eq_true c70
         (try (have c70b0w := c70b0; (rw [show wrap64 (1013 * (x0.length : Int)) = (1013 * (x0.length : Int)) from by unfold wrap64; omega] at c70b0w)))
         clear c70
         cases H
        rw [if_neg c70] at H
        have c70b0 : decide ((wrap64 (1013 * (x0.length : Int))) ≤ 65536) = false := decide_eq_false c70
        (try (have c70b0w := c70b0; (rw [show wrap64 (1013 * (x0.length : Int)) = (1013 * (x0.length : Int)) from by unfold wrap64; omega] at c70b0w)))
        clear c70
        by_cases c75 : t1.toList = ([] : List UInt8)
        case neg =>
         rw [if_neg c75] at H
         have c75b0 : (t1.toList == ([] : List UInt8)) = false := beq_eq_false_iff_ne.mpr c75
         have c75b1 : (t1.toList != ([] : List UInt8)) = true := bne_iff_ne.mpr c75
         cases H
        rw [if_pos c75] at H
        have c75b0 : (t1.toList == ([] : List UInt8)) = true := beq_iff_eq.mpr c75
        have c75b1 : (t1.toList != ([] : List UInt8)) = false := bne_eq_false_iff_eq.mpr c75
        clear c75
        obtain rfl := Option.some.inj H
        obtain ⟨a5, o2, e8⟩ := Kd.N_slice O0.out
        subst e8
        have p43 : 0 ≤ (0 : Int) := (by omega)
        have q43 : (0 : Int) < ((x0.length : Int) : Int) := of_decide_eq_true hA_
        have qi43 : (0 < x0.length) = True := eq_true (by omega)
        obtain ⟨j1, o1, e0, g0, gl43, cl43, HG43⟩ := Kd.N_form O0.out (by omega)
        (first | cases e0 | (injection e0 with ea_ en_ ec_; (first | subst ea_ | (injection ea_ with ea_; subst ea_)); subst ec_; clear en_))
        have J0 := a_ g0
        have K0 := a_ HG43
        clear g0 gl43 HG43
        obtain ⟨ce43, hcl43, hM43, hcc43, hfr43⟩ := Kd.N_elem O0.out z37 (0 : Int) p43 q43
        obtain ⟨ua43_2, uc43_2, rfl, ul43_2, ge43_2⟩ := k37_openF hM43
        have h0 : wr.cell? ⟨j1, (0 : Int).toNat * 4, none⟩ = some (.int .i64 ((rd_T37 x0 0).f0)) := hcc43 0 _ rfl
        have h1 : wr.cell? ⟨j1, (0 : Int).toNat * 4 + 1, none⟩ = some (.int .i64 ((rd_T37 x0 0).f1)) := hcc43 1 _ rfl
        have h2 : wr.cell? ⟨j1, (0 : Int).toNat * 4 + 2, none⟩ = some (.slice ua43_2 ((rd_T37 x0 0).f2).length uc43_2) := hcc43 2 _ rfl
        have h3 : wr.cell? ⟨j1, (0 : Int).toNat * 4 + 3, none⟩ = some (.string ((rd_T37 x0 0).f3)) := hcc43 3 _ rfl
        have hf43_0 : wr.frozen? ⟨j1, (0 : Int).toNat * 4, none⟩ = false := hfr43 0
        have hf43_1 : wr.frozen? ⟨j1, (0 : Int).toNat * 4 + 1, none⟩ = false := hfr43 1
        have hf43_2 : wr.frozen? ⟨j1, (0 : Int).toNat * 4 + 2, none⟩ = false := hfr43 2
        have hf43_3 : wr.frozen? ⟨j1, (0 : Int).toNat * 4 + 3, none⟩ = false := hfr43 3
        clear hcl43 hcc43 hfr43 hM43
        (try rw [show ((0 : Int)).toNat = 0 from rfl] at h0)
        (try simp only [Nat.reduceMul, Nat.zero_mul, Nat.zero_add, Nat.reduceAdd] at h0)
        (try rw [show ((0 : Int)).toNat = 0 from rfl] at hf43_0)
        (try simp only [Nat.reduceMul, Nat.zero_mul, Nat.zero_add, Nat.reduceAdd] at hf43_0)
        (try rw [show ((0 : Int)).toNat = 0 from rfl] at h1)
        (try simp only [Nat.reduceMul, Nat.zero_mul, Nat.zero_add, Nat.reduceAdd] at h1)
        (try rw [show ((0 : Int)).toNat = 0 from rfl] at hf43_1)
        (try simp only [Nat.reduceMul, Nat.zero_mul, Nat.zero_add, Nat.reduceAdd] at hf43_1)
        (try rw [show ((0 : Int)).toNat = 0 from rfl] at h2)
        (try simp only [Nat.reduceMul, Nat.zero_mul, Nat.zero_add, Nat.reduceAdd] at h2)
        (try rw [show ((0 : Int)).toNat = 0 from rfl] at hf43_2)
        (try simp only [Nat.reduceMul, Nat.zero_mul, Nat.zero_add, Nat.reduceAdd] at hf43_2)
        (try rw [show ((0 : Int)).toNat = 0 from rfl] at h3)
        (try simp only [Nat.reduceMul, Nat.zero_mul, Nat.zero_add, Nat.reduceAdd] at h3)
        (try rw [show ((0 : Int)).toNat = 0 from rfl] at hf43_3)
        (try simp only [Nat.reduceMul, Nat.zero_mul, Nat.zero_add, Nat.reduceAdd] at hf43_3)
        replace p43 := eq_true p43
        replace q43 := eq_true q43
        have X5 := a_ (show Kd.N k37 37 wr w.heap.size (fun _ => True) (.slice (some ⟨j1, 0, none⟩) x0.length o2) x0 from (hN_ O0.out))
        obtain ⟨ce77, hcl77, hM77, hcc77, hfr77⟩ := Kd.N_elem X5.out z37 (0 : Int) (by omega) (by have h_ : (0 : Int) < ((x0.length : Int) : Int) := of_decide_eq_true hA_; first | exact h_ | (have e_ := (Kd.N_reads' O0.out).1; omega) | simpa using h_)
        obtain ⟨ua77_2, uc77_2, rfl, ul77_2, ge77_2⟩ := k37_openF hM77
        have HP77 := Kd.N_seg X5.out (0 : Int) (by omega) (by have h_ : (0 : Int) < ((x0.length : Int) : Int) := of_decide_eq_true hA_; first | exact h_ | (have e_ := (Kd.N_reads' O0.out).1; omega) | simpa using h_) (seg := [.int .i64 (-1)]) (j := 1) hcl77 hcc77 (show 2 ≤ 4 from by decide) (x' := (⟨(rd_T37 x0 0).f0, (-1), (rd_T37 x0 0).f2, (rd_T37 x0 0).f3⟩ : S37)) (k37_mkF _ _ (⟨(rd_T37 x0 0).f0, (-1), (rd_T37 x0 0).f2, (rd_T37 x0 0).f3⟩ : S37) ul77_2 ge77_2) (fun _ hk => hk)
        have h20 := hcc77 1 _ rfl
        (try simp only [show (k37).sz = 4 from rfl, Nat.mul_one, Nat.add_zero] at h20)
        (try rw [show ((0 : Int)).toNat = 0 from rfl] at h20)
        (try simp only [Nat.reduceMul, Nat.zero_mul, Nat.zero_add, Nat.reduceAdd] at h20)
        have hf77_1 := hfr77 1
        (try simp only [show (k37).sz = 4 from rfl, Nat.mul_one, Nat.add_zero] at hf77_1)
        (try rw [show ((0 : Int)).toNat = 0 from rfl] at hf77_1)
        (try simp only [Nat.reduceMul, Nat.zero_mul, Nat.zero_add, Nat.reduceAdd] at hf77_1)
        clear hcl77 hcc77 hfr77 hM77
        go_wp2_with (first | ((with_reducible refine gate_store (t := 3) (p := 66) rfl ?_); refine store_event (t := 3) (p := 66) (v := ?vo_w78) (w1 := (wr.setCell ⟨j1, 1, none⟩ (.int .i64 (-1)))) ?hg ?ho ?hn ?hr ?_; (case ho => rfl); (case hg => rfl); (case hn => rfl); (case hr => first | (go_simp; done) | (go_simp; rfl)); intro w6 hw; have hg : wr.grownBy w6 (some j1) := (by rw [hw]; exact HP77.2); have hp_ : Kd.N k37 37 w6 w.heap.size (fun _ => True) (.slice (some ⟨j1, 0, none⟩) x0.length o2) y0 := (by rw [hw, Y0.out]; exact HP77.1); clear HP77; replace O0 := a_ (hp_); replace HB := a_ ((by rw [hw]; exact below_set (HB.out) J0.out : Below w.heap.size w w6)); clear hg hw hp_) | ((with_reducible refine gate_callee (f := 8) rfl ?_); refine goesL_ _ rfl rfl Tryd.func8 (by kernel_rfl) rfl #[.slice (some ⟨j1, 0, none⟩) y0.length o2] rfl (by (try simp only [List.map_toArray, List.map_cons, List.map_nil]); first | done | (rw [show y0.length = x0.length from (Kd.N_reads' O0.out).1.symm] <;> rfl) | rfl | (simp only [List.length_drop, List.length_take]; rfl)) ?_; (with_reducible refine (file_Text.calls k3 _ _ y0 t1 t6 _ ?s1 ?s2 A44.out hG_).mono ?_); (case s1 => repeat (first | exact (Kd.N_reads' O0.out).2.2 | (with_reducible refine Kd.C_alloc ?_ _) | (with_reducible refine Kd.C_drewN ?_ _) | (with_reducible refine Kd.C_drew ?_))); (case s2 => rw [show y0.length = x0.length from (Kd.N_reads' O0.out).1.symm]; exact (Kd.N_reads' O0.out).2.1); rintro e w79 ⟨rfl, hb⟩; refine ⟨_, rfl, ?_⟩; replace O0 := a_ (Kd.N_below (hN_ O0.out) hb); replace HB := a_ (below_step hB_ hb); (try clear hb); (try clear hb2); (try clear hk); (try clear hi)) | (go_at_call 9; (with_reducible refine (sleuthlaw0_Num.calls t4 t5 _ A46.out).mono ?_); rintro e w' ⟨rfl, ⟨nd, rfl⟩⟩) | (go_at_call 9; (with_reducible refine (sleuthlaw0_Num.calls t6 t3 _ A49.out).mono ?_); rintro e w' ⟨rfl, ⟨nd, rfl⟩⟩))
        go_ret
        first | (exfalso; have FX_ := ‹decide (wrap64 (1013 * (x0.length : Int)) ≤ 65536) = true›; have FY_ := ‹decide (wrap64 (1013 * (x0.length : Int)) ≤ 65536) = false›; rw [FX_] at FY_; cases FY_) | exact ⟨by first | rfl | (simp [errW_none, errW_some] <;> rfl) | (simp only [← hji31]; first | rfl | (simp [errW_none, errW_some] <;> rfl)) | (simp [*, errW_none, errW_some] <;> rfl), hC_⟩
       rw [if_pos c50] at H
       have c50b0 : (t3 == 0) = true := beq_iff_eq.mpr c50
       have c50b1 : (t3 != 0) = false := bne_eq_false_iff_eq.mpr c50
       clear c50
       by_cases c51 : (t1.size : Int) = (wrap64 (1013 * (x0.length : Int)))
       case pos =>
        rw [if_pos c51] at H
        have c51b0 : ((t1.size : Int) == (wrap64 (1013 * (x0.length : Int)))) = true := beq_iff_eq.mpr c51
        have c51b1 : ((t1.size : Int) != (wrap64 (1013 * (x0.length : Int)))) = false := bne_eq_false_iff_eq.mpr c51
        (try (have c51b0w := c51b0; (rw [show wrap64 (1013 * (x0.length : Int)) = (1013 * (x0.length : Int)) from by unfold wrap64; omega] at c51b0w)))
        (try (have c51b1w := c51b1; (rw [show wrap64 (1013 * (x0.length : Int)) = (1013 * (x0.length : Int)) from by unfold wrap64; omega] at c51b1w)))
        clear c51
        obtain rfl := Option.some.inj H
        obtain ⟨a6, o3, e9⟩ := Kd.N_slice O0.out
        subst e9
        have p43 : 0 ≤ (0 : Int) := (by omega)
        have q43 : (0 : Int) < ((x0.length : Int) : Int) := of_decide_eq_true hA_
        have qi43 : (0 < x0.length) = True := eq_true (by omega)
        obtain ⟨j1, o1, e0, g0, gl43, cl43, HG43⟩ := Kd.N_form O0.out (by omega)
        (first | cases e0 | (injection e0 with ea_ en_ ec_; (first | subst ea_ | (injection ea_ with ea_; subst ea_)); subst ec_; clear en_))
        have J0 := a_ g0
        have K0 := a_ HG43
        clear g0 gl43 HG43
        obtain ⟨ce43, hcl43, hM43, hcc43, hfr43⟩ := Kd.N_elem O0.out z37 (0 : Int) p43 q43
        obtain ⟨ua43_2, uc43_2, rfl, ul43_2, ge43_2⟩ := k37_openF hM43
        have h0 : wr.cell? ⟨j1, (0 : Int).toNat * 4, none⟩ = some (.int .i64 ((rd_T37 x0 0).f0)) := hcc43 0 _ rfl
        have h1 : wr.cell? ⟨j1, (0 : Int).toNat * 4 + 1, none⟩ = some (.int .i64 ((rd_T37 x0 0).f1)) := hcc43 1 _ rfl
        have h2 : wr.cell? ⟨j1, (0 : Int).toNat * 4 + 2, none⟩ = some (.slice ua43_2 ((rd_T37 x0 0).f2).length uc43_2) := hcc43 2 _ rfl
        have h3 : wr.cell? ⟨j1, (0 : Int).toNat * 4 + 3, none⟩ = some (.string ((rd_T37 x0 0).f3)) := hcc43 3 _ rfl
        have hf43_0 : wr.frozen? ⟨j1, (0 : Int).toNat * 4, none⟩ = false := hfr43 0
        have hf43_1 : wr.frozen? ⟨j1, (0 : Int).toNat * 4 + 1, none⟩ = false := hfr43 1
        have hf43_2 : wr.frozen? ⟨j1, (0 : Int).toNat * 4 + 2, none⟩ = false := hfr43 2
        have hf43_3 : wr.frozen? ⟨j1, (0 : Int).toNat * 4 + 3, none⟩ = false := hfr43 3
        clear hcl43 hcc43 hfr43 hM43
        (try rw [show ((0 : Int)).toNat = 0 from rfl] at h0)
        (try simp only [Nat.reduceMul, Nat.zero_mul, Nat.zero_add, Nat.reduceAdd] at h0)
        (try rw [show ((0 : Int)).toNat = 0 from rfl] at hf43_0)
        (try simp only [Nat.reduceMul, Nat.zero_mul, Nat.zero_add, Nat.reduceAdd] at hf43_0)
        (try rw [show ((0 : Int)).toNat = 0 from rfl] at h1)
        (try simp only [Nat.reduceMul, Nat.zero_mul, Nat.zero_add, Nat.reduceAdd] at h1)
        (try rw [show ((0 : Int)).toNat = 0 from rfl] at hf43_1)
        (try simp only [Nat.reduceMul, Nat.zero_mul, Nat.zero_add, Nat.reduceAdd] at hf43_1)
        (try rw [show ((0 : Int)).toNat = 0 from rfl] at h2)
        (try simp only [Nat.reduceMul, Nat.zero_mul, Nat.zero_add, Nat.reduceAdd] at h2)
        (try rw [show ((0 : Int)).toNat = 0 from rfl] at hf43_2)
        (try simp only [Nat.reduceMul, Nat.zero_mul, Nat.zero_add, Nat.reduceAdd] at hf43_2)
        (try rw [show ((0 : Int)).toNat = 0 from rfl] at h3)
        (try simp only [Nat.reduceMul, Nat.zero_mul, Nat.zero_add, Nat.reduceAdd] at h3)
        (try rw [show ((0 : Int)).toNat = 0 from rfl] at hf43_3)
        (try simp only [Nat.reduceMul, Nat.zero_mul, Nat.zero_add, Nat.reduceAdd] at hf43_3)
        replace p43 := eq_true p43
        replace q43 := eq_true q43
        have X6 := a_ (show Kd.N k37 37 wr w.heap.size (fun _ => True) (.slice (some ⟨j1, 0, none⟩) x0.length o3) x0 from (hN_ O0.out))
        obtain ⟨ce53, hcl53, hM53, hcc53, hfr53⟩ := Kd.N_elem X6.out z37 (0 : Int) (by omega) (by have h_ : (0 : Int) < ((x0.length : Int) : Int) := of_decide_eq_true hA_; first | exact h_ | (have e_ := (Kd.N_reads' O0.out).1; omega) | simpa using h_)
        obtain ⟨ua53_2, uc53_2, rfl, ul53_2, ge53_2⟩ := k37_openF hM53
        have HP53 := Kd.N_seg X6.out (0 : Int) (by omega) (by have h_ : (0 : Int) < ((x0.length : Int) : Int) := of_decide_eq_true hA_; first | exact h_ | (have e_ := (Kd.N_reads' O0.out).1; omega) | simpa using h_) (seg := [.int .i64 (-1)]) (j := 1) hcl53 hcc53 (show 2 ≤ 4 from by decide) (x' := (⟨(rd_T37 x0 0).f0, (-1), (rd_T37 x0 0).f2, (rd_T37 x0 0).f3⟩ : S37)) (k37_mkF _ _ (⟨(rd_T37 x0 0).f0, (-1), (rd_T37 x0 0).f2, (rd_T37 x0 0).f3⟩ : S37) ul53_2 ge53_2) (fun _ hk => hk)
        have h21 := hcc53 1 _ rfl
        (try simp only [show (k37).sz = 4 from rfl, Nat.mul_one, Nat.add_zero] at h21)
        (try rw [show ((0 : Int)).toNat = 0 from rfl] at h21)
        (try simp only [Nat.reduceMul, Nat.zero_mul, Nat.zero_add, Nat.reduceAdd] at h21)
        have hf53_1 := hfr53 1
        (try simp only [show (k37).sz = 4 from rfl, Nat.mul_one, Nat.add_zero] at hf53_1)
        (try rw [show ((0 : Int)).toNat = 0 from rfl] at hf53_1)
        (try simp only [Nat.reduceMul, Nat.zero_mul, Nat.zero_add, Nat.reduceAdd] at hf53_1)
        clear hcl53 hcc53 hfr53 hM53
        go_wp2_with (first | ((with_reducible refine gate_store (t := 3) (p := 66) rfl ?_); refine store_event (t := 3) (p := 66) (v := ?vo_w54) (w1 := (wr.setCell ⟨j1, 1, none⟩ (.int .i64 (-1)))) ?hg ?ho ?hn ?hr ?_; (case ho => rfl); (case hg => rfl); (case hn => rfl); (case hr => first | (go_simp; done) | (go_simp; rfl)); intro w9 hw; have hg : wr.grownBy w9 (some j1) := (by rw [hw]; exact HP53.2); have hp_ : Kd.N k37 37 w9 w.heap.size (fun _ => True) (.slice (some ⟨j1, 0, none⟩) x0.length o3) y0 := (by rw [hw, Y0.out]; exact HP53.1); clear HP53; replace O0 := a_ (hp_); replace HB := a_ ((by rw [hw]; exact below_set (HB.out) J0.out : Below w.heap.size w w9)); clear hg hw hp_) | ((with_reducible refine gate_callee (f := 8) rfl ?_); refine goesL_ _ rfl rfl Tryd.func8 (by kernel_rfl) rfl #[.slice (some ⟨j1, 0, none⟩) y0.length o3] rfl (by (try simp only [List.map_toArray, List.map_cons, List.map_nil]); first | done | (rw [show y0.length = x0.length from (Kd.N_reads' O0.out).1.symm] <;> rfl) | rfl | (simp only [List.length_drop, List.length_take]; rfl)) ?_; (with_reducible refine (file_Text.calls k3 _ _ y0 t1 t6 _ ?s1 ?s2 A44.out hG_).mono ?_); (case s1 => repeat (first | exact (Kd.N_reads' O0.out).2.2 | (with_reducible refine Kd.C_alloc ?_ _) | (with_reducible refine Kd.C_drewN ?_ _) | (with_reducible refine Kd.C_drew ?_))); (case s2 => rw [show y0.length = x0.length from (Kd.N_reads' O0.out).1.symm]; exact (Kd.N_reads' O0.out).2.1); rintro e w55 ⟨rfl, hb⟩; refine ⟨_, rfl, ?_⟩; replace O0 := a_ (Kd.N_below (hN_ O0.out) hb); replace HB := a_ (below_step hB_ hb); (try clear hb); (try clear hb2); (try clear hk); (try clear hi)) | (go_at_call 9; (with_reducible refine (sleuthlaw0_Num.calls t4 t5 _ A46.out).mono ?_); rintro e w' ⟨rfl, ⟨nd, rfl⟩⟩) | (go_at_call 9; (with_reducible refine (sleuthlaw0_Num.calls t6 t3 _ A49.out).mono ?_); rintro e w' ⟨rfl, ⟨nd, rfl⟩⟩))
        go_ret
        first | (exfalso; have FX_ := ‹decide (wrap64 (1013 * (x0.length : Int)) ≤ 65536) = true›; have FY_ := ‹decide (wrap64 (1013 * (x0.length : Int)) ≤ 65536) = false›; rw [FX_] at FY_; cases FY_) | exact ⟨by first | rfl | (simp [errW_none, errW_some] <;> rfl) | (simp only [← hji31]; first | rfl | (simp [errW_none, errW_some] <;> rfl)) | (simp [*, errW_none, errW_some] <;> rfl), hC_⟩
       rw [if_neg c51] at H
       have c51b0 : ((t1.size : Int) == (wrap64 (1013 * (x0.length : Int)))) = false := beq_eq_false_iff_ne.mpr c51
       have c51b1 : ((t1.size : Int) != (wrap64 (1013 * (x0.length : Int)))) = true := bne_iff_ne.mpr c51
       (try (have c51b0w := c51b0; (rw [show wrap64 (1013 * (x0.length : Int)) = (1013 * (x0.length : Int)) from by unfold wrap64; omega] at c51b0w)))
       (try (have c51b1w := c51b1; (rw [show wrap64 (1013 * (x0.length : Int)) = (1013 * (x0.length : Int)) from by unfold wrap64; omega] at c51b1w)))
       by_cases c56 : ((wrap64 (1013 * (x0.length : Int))) ≤ 65536)
       case pos =>
        rw [if_pos c56] at H
        have c56b0 : decide ((wrap64 (1013 * (x0.length : Int))) ≤ 65536) = true := decide_eq_true c56
        (try (have c56b0w := c56b0; (rw [show wrap64 (1013 * (x0.length : Int)) = (1013 * (x0.length : Int)) from by unfold wrap64; omega] at c56b0w)))
        clear c56
        cases H
       rw [if_neg c56] at H
       have c56b0 : decide ((wrap64 (1013 * (x0.length : Int))) ≤ 65536) = false := decide_eq_false c56
       (try (have c56b0w := c56b0; (rw [show wrap64 (1013 * (x0.length : Int)) = (1013 * (x0.length : Int)) from by unfold wrap64; omega] at c56b0w)))
       clear c56
       by_cases c61 : t1.toList = ([] : List UInt8)
       case neg =>
        rw [if_neg c61] at H
        have c61b0 : (t1.toList == ([] : List UInt8)) = false := beq_eq_false_iff_ne.mpr c61
        have c61b1 : (t1.toList != ([] : List UInt8)) = true := bne_iff_ne.mpr c61
        cases H
       rw [if_pos c61] at H
       have c61b0 : (t1.toList == ([] : List UInt8)) = true := beq_iff_eq.mpr c61
       have c61b1 : (t1.toList != ([] : List UInt8)) = false := bne_eq_false_iff_eq.mpr c61
       clear c61
       obtain rfl := Option.some.inj H
       obtain ⟨a7, o4, e10⟩ := Kd.N_slice O0.out
       subst e10
       have p43 : 0 ≤ (0 : Int) := (by omega)
       have q43 : (0 : Int) < ((x0.length : Int) : Int) := of_decide_eq_true hA_
       have qi43 : (0 < x0.length) = True := eq_true (by omega)
       obtain ⟨j1, o1, e0, g0, gl43, cl43, HG43⟩ := Kd.N_form O0.out (by omega)
       (first | cases e0 | (injection e0 with ea_ en_ ec_; (first | subst ea_ | (injection ea_ with ea_; subst ea_)); subst ec_; clear en_))
       have J0 := a_ g0
       have K0 := a_ HG43
       clear g0 gl43 HG43
       obtain ⟨ce43, hcl43, hM43, hcc43, hfr43⟩ := Kd.N_elem O0.out z37 (0 : Int) p43 q43
       obtain ⟨ua43_2, uc43_2, rfl, ul43_2, ge43_2⟩ := k37_openF hM43
       have h0 : wr.cell? ⟨j1, (0 : Int).toNat * 4, none⟩ = some (.int .i64 ((rd_T37 x0 0).f0)) := hcc43 0 _ rfl
       have h1 : wr.cell? ⟨j1, (0 : Int).toNat * 4 + 1, none⟩ = some (.int .i64 ((rd_T37 x0 0).f1)) := hcc43 1 _ rfl
       have h2 : wr.cell? ⟨j1, (0 : Int).toNat * 4 + 2, none⟩ = some (.slice ua43_2 ((rd_T37 x0 0).f2).length uc43_2) := hcc43 2 _ rfl
       have h3 : wr.cell? ⟨j1, (0 : Int).toNat * 4 + 3, none⟩ = some (.string ((rd_T37 x0 0).f3)) := hcc43 3 _ rfl
       have hf43_0 : wr.frozen? ⟨j1, (0 : Int).toNat * 4, none⟩ = false := hfr43 0
       have hf43_1 : wr.frozen? ⟨j1, (0 : Int).toNat * 4 + 1, none⟩ = false := hfr43 1
       have hf43_2 : wr.frozen? ⟨j1, (0 : Int).toNat * 4 + 2, none⟩ = false := hfr43 2
       have hf43_3 : wr.frozen? ⟨j1, (0 : Int).toNat * 4 + 3, none⟩ = false := hfr43 3
       clear hcl43 hcc43 hfr43 hM43
       (try rw [show ((0 : Int)).toNat = 0 from rfl] at h0)
       (try simp only [Nat.reduceMul, Nat.zero_mul, Nat.zero_add, Nat.reduceAdd] at h0)
       (try rw [show ((0 : Int)).toNat = 0 from rfl] at hf43_0)
       (try simp only [Nat.reduceMul, Nat.zero_mul, Nat.zero_add, Nat.reduceAdd] at hf43_0)
       (try rw [show ((0 : Int)).toNat = 0 from rfl] at h1)
       (try simp only [Nat.reduceMul, Nat.zero_mul, Nat.zero_add, Nat.reduceAdd] at h1)
       (try rw [show ((0 : Int)).toNat = 0 from rfl] at hf43_1)
       (try simp only [Nat.reduceMul, Nat.zero_mul, Nat.zero_add, Nat.reduceAdd] at hf43_1)
       (try rw [show ((0 : Int)).toNat = 0 from rfl] at h2)
       (try simp only [Nat.reduceMul, Nat.zero_mul, Nat.zero_add, Nat.reduceAdd] at h2)
       (try rw [show ((0 : Int)).toNat = 0 from rfl] at hf43_2)
       (try simp only [Nat.reduceMul, Nat.zero_mul, Nat.zero_add, Nat.reduceAdd] at hf43_2)
       (try rw [show ((0 : Int)).toNat = 0 from rfl] at h3)
       (try simp only [Nat.reduceMul, Nat.zero_mul, Nat.zero_add, Nat.reduceAdd] at h3)
       (try rw [show ((0 : Int)).toNat = 0 from rfl] at hf43_3)
       (try simp only [Nat.reduceMul, Nat.zero_mul, Nat.zero_add, Nat.reduceAdd] at hf43_3)
       replace p43 := eq_true p43
       replace q43 := eq_true q43
       have X7 := a_ (show Kd.N k37 37 wr w.heap.size (fun _ => True) (.slice (some ⟨j1, 0, none⟩) x0.length o4) x0 from (hN_ O0.out))
       obtain ⟨ce63, hcl63, hM63, hcc63, hfr63⟩ := Kd.N_elem X7.out z37 (0 : Int) (by omega) (by have h_ : (0 : Int) < ((x0.length : Int) : Int) := of_decide_eq_true hA_; first | exact h_ | (have e_ := (Kd.N_reads' O0.out).1; omega) | simpa using h_)
       obtain ⟨ua63_2, uc63_2, rfl, ul63_2, ge63_2⟩ := k37_openF hM63
       have HP63 := Kd.N_seg X7.out (0 : Int) (by omega) (by have h_ : (0 : Int) < ((x0.length : Int) : Int) := of_decide_eq_true hA_; first | exact h_ | (have e_ := (Kd.N_reads' O0.out).1; omega) | simpa using h_) (seg := [.int .i64 (-1)]) (j := 1) hcl63 hcc63 (show 2 ≤ 4 from by decide) (x' := (⟨(rd_T37 x0 0).f0, (-1), (rd_T37 x0 0).f2, (rd_T37 x0 0).f3⟩ : S37)) (k37_mkF _ _ (⟨(rd_T37 x0 0).f0, (-1), (rd_T37 x0 0).f2, (rd_T37 x0 0).f3⟩ : S37) ul63_2 ge63_2) (fun _ hk => hk)
       have h22 := hcc63 1 _ rfl
       (try simp only [show (k37).sz = 4 from rfl, Nat.mul_one, Nat.add_zero] at h22)
       (try rw [show ((0 : Int)).toNat = 0 from rfl] at h22)
       (try simp only [Nat.reduceMul, Nat.zero_mul, Nat.zero_add, Nat.reduceAdd] at h22)
       have hf63_1 := hfr63 1
       (try simp only [show (k37).sz = 4 from rfl, Nat.mul_one, Nat.add_zero] at hf63_1)
       (try rw [show ((0 : Int)).toNat = 0 from rfl] at hf63_1)
       (try simp only [Nat.reduceMul, Nat.zero_mul, Nat.zero_add, Nat.reduceAdd] at hf63_1)
       clear hcl63 hcc63 hfr63 hM63
       go_wp2_with (first | ((with_reducible refine gate_store (t := 3) (p := 66) rfl ?_); refine store_event (t := 3) (p := 66) (v := ?vo_w64) (w1 := (wr.setCell ⟨j1, 1, none⟩ (.int .i64 (-1)))) ?hg ?ho ?hn ?hr ?_; (case ho => rfl); (case hg => rfl); (case hn => rfl); (case hr => first | (go_simp; done) | (go_simp; rfl)); intro w64 hw; have hg : wr.grownBy w64 (some j1) := (by rw [hw]; exact HP63.2); have hp_ : Kd.N k37 37 w64 w.heap.size (fun _ => True) (.slice (some ⟨j1, 0, none⟩) x0.length o4) y0 := (by rw [hw, Y0.out]; exact HP63.1); clear HP63; replace O0 := a_ (hp_); replace HB := a_ ((by rw [hw]; exact below_set (HB.out) J0.out : Below w.heap.size w w64)); clear hg hw hp_) | ((with_reducible refine gate_callee (f := 8) rfl ?_); refine goesL_ _ rfl rfl Tryd.func8 (by kernel_rfl) rfl #[.slice (some ⟨j1, 0, none⟩) y0.length o4] rfl (by (try simp only [List.map_toArray, List.map_cons, List.map_nil]); first | done | (rw [show y0.length = x0.length from (Kd.N_reads' O0.out).1.symm] <;> rfl) | rfl | (simp only [List.length_drop, List.length_take]; rfl)) ?_; (with_reducible refine (file_Text.calls k3 _ _ y0 t1 t6 _ ?s1 ?s2 A44.out hG_).mono ?_); (case s1 => repeat (first | exact (Kd.N_reads' O0.out).2.2 | (with_reducible refine Kd.C_alloc ?_ _) | (with_reducible refine Kd.C_drewN ?_ _) | (with_reducible refine Kd.C_drew ?_))); (case s2 => rw [show y0.length = x0.length from (Kd.N_reads' O0.out).1.symm]; exact (Kd.N_reads' O0.out).2.1); rintro e w65 ⟨rfl, hb⟩; refine ⟨_, rfl, ?_⟩; replace O0 := a_ (Kd.N_below (hN_ O0.out) hb); replace HB := a_ (below_step hB_ hb); (try clear hb); (try clear hb2); (try clear hk); (try clear hi)) | (go_at_call 9; (with_reducible refine (sleuthlaw0_Num.calls t4 t5 _ A46.out).mono ?_); rintro e w' ⟨rfl, ⟨nd, rfl⟩⟩) | (go_at_call 9; (with_reducible refine (sleuthlaw0_Num.calls t6 t3 _ A49.out).mono ?_); rintro e w' ⟨rfl, ⟨nd, rfl⟩⟩))
       go_ret
       first | (exfalso; have FX_ := ‹decide (wrap64 (1013 * (x0.length : Int)) ≤ 65536) = true›; have FY_ := ‹decide (wrap64 (1013 * (x0.length : Int)) ≤ 65536) = false›; rw [FX_] at FY_; cases FY_) | exact ⟨by first | rfl | (simp [errW_none, errW_some] <;> rfl) | (simp only [← hji31]; first | rfl | (simp [errW_none, errW_some] <;> rfl)) | (simp [*, errW_none, errW_some] <;> rfl), hC_⟩
end Go.Proofs.YtnhmmbgnaogokaaDoor.G
