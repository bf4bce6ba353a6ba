-- Laid by the session's own driver gp.py over the kit's printer. Not trusted: Lean checks it.
import Derived.Test.YtljlmkbcichlpaaDoorTHead
import Derived.Test.YtljlmkbcichlpaaDoorG0
import Derived.Test.YtljlmkbcichlpaaDoorG3
import Derived.Test.YtljlmkbcichlpaaDoorG5
import Derived.Test.YtljlmkbcichlpaaDoorG6
namespace Go.Proofs.YtljlmkbcichlpaaDoor.G
open Go.RowKit Go.Proofs.YtljlmkbcichlpaaDoorW.PrintWords Go.Proofs.YtljlmkbcichlpaaDoorW.PrintLast Go.Proofs.YtljlmkbcichlpaaDoorW.PrintMore
set_option maxHeartbeats 8000000
set_option maxRecDepth 100000
attribute [local go_sem] max2_int min2_int max_two min_two max_three min_three max_four min_four   -- for this text's walks alone
set_option linter.unusedVariables false
set_option linter.unusedSimpArgs false

def sleuthlaw4_LexForms.l0 : Nat → Int → List Int → Int → Option (Bool)
 | 0, _, _, _ => none
 | k + 1, x7, x8, x9 => if x9 < (x8.length : Int) then (if 0 ≤ x9 then (sleuthlaw4_LexForms.l0 k x7 (x8.set (x9 : Int).toNat 113) (wrap64 (x9 + 1))) else (none)) else ((lex_Words.f (strOfNums x8)).bind fun bt150 => (if 2048 ≤ (x8.length : Int) then ((lex_Words.f (strOfNums (x8.take 2048))).bind fun bt158 => ((sleuthlaw0_Num.f x7).bind fun t162 => (if t162 = 400 then ((sleuthlaw0_Num.f bt150.2).bind fun t163 => (if t163 = 400 then ((sleuthlaw0_Num.f bt158.2).bind fun t164 => (if t164 = 0 then (if (bt158.1.length : Int) = 1 then (if 0 < (bt158.1.length : Int) then (some (((rdOf ByteArray.empty bt158.1 0).size : Int) == 2048)) else (none)) else (none)) else (none))) else (none))) else (none)))) else (none)))
def sleuthlaw4_LexForms.f (k : Nat) (a0 : Int) (a1 : Int) : Option (Bool) := (sleuthlaw4_awake.f k).bind fun t137 => (if t137 = true then ((some (([(⟨#[9]⟩ : ByteArray), (⟨#[13]⟩ : ByteArray), (⟨#[0]⟩ : ByteArray), (⟨#[127]⟩ : ByteArray), (⟨#[255]⟩ : ByteArray), (⟨#[31]⟩ : ByteArray), (⟨#[195, 169]⟩ : ByteArray), (⟨#[11]⟩ : ByteArray)] : List ByteArray) : List ByteArray)).bind fun y138 => (if 0 ≤ (Go.bits .and .i64 a0 7) then (if (Go.bits .and .i64 a0 7) < (y138.length : Int) then (if 1 + (rdOf ByteArray.empty y138 (Go.bits .and .i64 a0 7)).size ≤ 9223372036854775807 then ((lex_Words.f ((⟨#[97]⟩ : ByteArray) ++ (rdOf ByteArray.empty y138 (Go.bits .and .i64 a0 7)))).bind fun bt142 => (if 0 ≤ (wrap64 (2048 + (wrap64 (1 + (Go.bits .and .i64 a1 1023))))) then (if (wrap64 (2048 + (wrap64 (1 + (Go.bits .and .i64 a1 1023)))) : Int).toNat ≤ 281474976710656 then (sleuthlaw4_LexForms.l0 k bt142.2 (List.replicate (wrap64 (2048 + (wrap64 (1 + (Go.bits .and .i64 a1 1023)))) : Int).toNat 0) 0) else (none)) else (none))) else (none)) else (none)) else (none))) else (none))
theorem sleuthlaw4_LexForms.calls (k : Nat) (a0 : Int) (a1 : Int) (r : Bool) (w : World) (h : sleuthlaw4_LexForms.f k a0 a1 = some r) (hG : GOK w) :
 Calls Tryd.prog 4 #[.int .i64 a0, .int .i64 a1] w fun e w' => e = .returned (.bool r) ∧ Below w.heap.size w w' := by
 have HB := a_ (Below.refl w.heap.size w)
 have H := h; unfold sleuthlaw4_LexForms.f at H
 clear h
 replace H := Option.bind_eq_some_iff.mp H
 obtain ⟨t7, A30, H⟩ := H
 try dsimp only at H
 have A3 := a_ A30
 clear A30
 by_cases c4 : t7 = true
 case neg =>
  replace c4 := Bool.eq_false_iff.mpr c4
  subst c4
  rw [if_neg (show ¬ (false = true) by decide)] at H
  cases H
 subst c4
 rw [if_pos rfl] at H
 obtain ⟨y0, i0⟩ : ∃ y_ : List ByteArray, y_ = (([(⟨#[9]⟩ : ByteArray), (⟨#[13]⟩ : ByteArray), (⟨#[0]⟩ : ByteArray), (⟨#[127]⟩ : ByteArray), (⟨#[255]⟩ : ByteArray), (⟨#[31]⟩ : ByteArray), (⟨#[195, 169]⟩ : ByteArray), (⟨#[11]⟩ : ByteArray)] : List ByteArray)) := ⟨_, rfl⟩
 replace H : (if 0 ≤ (Go.bits .and .i64 a0 7) then (if (Go.bits .and .i64 a0 7) < (y0.length : Int) then (if 1 + (rdOf ByteArray.empty y0 (Go.bits .and .i64 a0 7)).size ≤ 9223372036854775807 then ((lex_Words.f ((⟨#[97]⟩ : ByteArray) ++ (rdOf ByteArray.empty y0 (Go.bits .and .i64 a0 7)))).bind fun bt142 => (if 0 ≤ (wrap64 (2048 + (wrap64 (1 + (Go.bits .and .i64 a1 1023))))) then (if (wrap64 (2048 + (wrap64 (1 + (Go.bits .and .i64 a1 1023)))) : Int).toNat ≤ 281474976710656 then (sleuthlaw4_LexForms.l0 k bt142.2 (List.replicate (wrap64 (2048 + (wrap64 (1 + (Go.bits .and .i64 a1 1023)))) : Int).toNat 0) 0) else (none)) else (none))) else (none)) else (none)) else (none)) = some r := by first | (rw [i0]; with_reducible exact H) | (have H2_ := (Option.bind_some _ _).symm.trans H; rw [i0]; with_reducible exact H2_) | (have H2_ := (Option.bind_some _ _).symm.trans H; with_reducible exact H2_) | with_reducible exact H | (rw [i0]; exact H) | exact H
 have Y0 := a_ i0
 clear i0
 replace H := ifI_ H; obtain ⟨c5, H⟩ := H
 have c5b0 : decide (0 ≤ (Go.bits .and .i64 a0 7)) = true := decide_eq_true c5
 clear c5
 replace H := ifI_ H; obtain ⟨c6, H⟩ := H
 have c6b0 : decide ((Go.bits .and .i64 a0 7) < (y0.length : Int)) = true := decide_eq_true c6
 clear c6
 replace H := ifI_ H; obtain ⟨c7, H⟩ := H
 have c7b0 := eq_true c7
 have c7b1 : decide (1 + (rdOf ByteArray.empty y0 (Go.bits .and .i64 a0 7)).size ≤ 9223372036854775807) = true := decide_eq_true c7
 try have c7b2 : (9223372036854775807 < 1 + (rdOf ByteArray.empty y0 (Go.bits .and .i64 a0 7)).size) = False := eq_false (Nat.not_lt.2 c7)
 replace H := Option.bind_eq_some_iff.mp H
 obtain ⟨⟨t8, t1⟩, A80, H⟩ := H
 try dsimp only at H
 have A8 := a_ A80
 clear A80
 obtain ⟨ji9, hji9⟩ : ∃ j_ : Int, (wrap64 (2048 + (wrap64 (1 + (Go.bits .and .i64 a1 1023))))) = j_ := ⟨_, rfl⟩
 replace H : (if 0 ≤ (ji9) then (if (ji9 : Int).toNat ≤ 281474976710656 then (sleuthlaw4_LexForms.l0 k t1 (List.replicate (ji9 : Int).toNat 0) 0) else (none)) else (none)) = some r := by first | (rw [hji9] at H; exact H) | (simp only [hji9] at H ⊢; exact H)
 (try rw [hji9] at A3)
 (try rw [hji9] at A8)
 have hji9w : (IntKind.i64.wrap (2048 + (wrap64 (1 + (Go.bits .and .i64 a1 1023))))) = ji9 := (i64_w _).trans hji9
 replace H := ifI_ H; obtain ⟨c10, H⟩ := H
 have c10b0 := eq_true c10
 have c10b1 : decide (0 ≤ (ji9)) = true := decide_eq_true c10
 clear c10
 replace H := ifI_ H; obtain ⟨c11, H⟩ := H
 have c11b0 := eq_true c11
 have c11b1 : decide ((ji9 : Int).toNat ≤ 281474976710656) = true := decide_eq_true c11
 clear c11
 obtain ⟨y3, i1⟩ : ∃ y_ : List Int, y_ = (List.replicate (ji9 : Int).toNat 0) := ⟨_, rfl⟩
 replace H : (sleuthlaw4_LexForms.l0 k t1 y3 0) = some r := by first | (rw [i1]; with_reducible exact H) | (have H2_ := (Option.bind_some _ _).symm.trans H; rw [i1]; with_reducible exact H2_) | (have H2_ := (Option.bind_some _ _).symm.trans H; with_reducible exact H2_) | with_reducible exact H | (rw [i1]; exact H) | exact H
 have Y1 := a_ i1
 clear i1
 have H' := a_ H
 clear H
 go_enter Tryd.func4, Tryd.ntmps4
 go_wp2_with (first | ((with_reducible refine gate_callee (f := 13) rfl ?_); refine goesL_ (some 14) rfl rfl Tryd.func13 (by kernel_rfl) rfl #[] rfl hL_ ?_; (with_reducible refine (sleuthlaw4_awake.calls k  true _ A3.out hG_).mono ?_); rintro e w2 ⟨rfl, hb⟩; refine ⟨_, rfl, ?_⟩; replace HB := a_ (below_step hB_ hb); (try clear hb); (try clear hb2); (try clear hk); (try clear hi)) | ((with_reducible refine gate_dst (N := 20) rfl ?_); (try (refine gate_guard (by rfl) ?_; dsimp only)); refine Kd.R_lit Kd.string _ 9 ?hg (N := 20) ?hd (xs := ([(⟨#[9]⟩ : ByteArray), (⟨#[13]⟩ : ByteArray), (⟨#[0]⟩ : ByteArray), (⟨#[127]⟩ : ByteArray), (⟨#[255]⟩ : ByteArray), (⟨#[31]⟩ : ByteArray), (⟨#[195, 169]⟩ : ByteArray), (⟨#[11]⟩ : ByteArray)] : List ByteArray)) (inner := [.string (⟨#[9]⟩ : ByteArray), .string (⟨#[13]⟩ : ByteArray), .string (⟨#[0]⟩ : ByteArray), .string (⟨#[127]⟩ : ByteArray), .string (⟨#[255]⟩ : ByteArray), .string (⟨#[31]⟩ : ByteArray), .string (⟨#[195, 169]⟩ : ByteArray), .string (⟨#[11]⟩ : ByteArray)]) (ok := fun _ => True) (okp := fun _ => True) ?hr ?hp (fun _ hk => hk) trivial (Below.refl _ _) (Nat.le_refl _) (by simp) ?_; (case hd => rfl); (case hg => rfl); (case hr => first | (go_simp; done) | (go_simp; rfl)); (case hp => exact (Reps.one (show Kd.M Kd.string _ _ _ (⟨#[9]⟩ : ByteArray) [.string (⟨#[9]⟩ : ByteArray)] from rfl) (Reps.one (show Kd.M Kd.string _ _ _ (⟨#[13]⟩ : ByteArray) [.string (⟨#[13]⟩ : ByteArray)] from rfl) (Reps.one (show Kd.M Kd.string _ _ _ (⟨#[0]⟩ : ByteArray) [.string (⟨#[0]⟩ : ByteArray)] from rfl) (Reps.one (show Kd.M Kd.string _ _ _ (⟨#[127]⟩ : ByteArray) [.string (⟨#[127]⟩ : ByteArray)] from rfl) (Reps.one (show Kd.M Kd.string _ _ _ (⟨#[255]⟩ : ByteArray) [.string (⟨#[255]⟩ : ByteArray)] from rfl) (Reps.one (show Kd.M Kd.string _ _ _ (⟨#[31]⟩ : ByteArray) [.string (⟨#[31]⟩ : ByteArray)] from rfl) (Reps.one (show Kd.M Kd.string _ _ _ (⟨#[195, 169]⟩ : ByteArray) [.string (⟨#[195, 169]⟩ : ByteArray)] from rfl) (Reps.one (show Kd.M Kd.string _ _ _ (⟨#[11]⟩ : ByteArray) [.string (⟨#[11]⟩ : ByteArray)] from rfl) (Reps.none _ _)))))))))); intro v1 w3 ho14 hb hg_ hnew_; clear hg_ hnew_; (first | rw [← Y0.out] at ho14 | (simp only [Int.reduceToNat] at ho14; rw [← Y0.out] at ho14)); have P0 := a_ (Kd.R_lower ho14 hS_); replace HB := a_ (below_step hB_ hb); clear hb ho14; obtain ⟨a3, o2, e1⟩ := Kd.R_slice P0.out; subst e1; have p141 : 0 ≤ ((Go.bits .and .i64 a0 7) : Int) := of_decide_eq_true hA_; have q141 : (Go.bits .and .i64 a0 7) < (y0.length : Int) := of_decide_eq_true hA_; obtain ⟨d0, e141, h1⟩ := Kd.at_string (Kd.R_reads' P0.out).2.2 (Go.bits .and .i64 a0 7) p141 q141; cases e141; replace p141 := eq_true p141; replace q141 := eq_true q141) | ((with_reducible refine gate_callee (f := 8) rfl ?_); refine goesL_ (some 26) rfl rfl Tryd.func8 (by kernel_rfl) rfl #[.string ((⟨#[97]⟩ : ByteArray) ++ (rdOf ByteArray.empty y0 (Go.bits .and .i64 a0 7)))] rfl hL_ ?_; (with_reducible refine (lex_Words.calls ((⟨#[97]⟩ : ByteArray) ++ (rdOf ByteArray.empty y0 (Go.bits .and .i64 a0 7))) t8 t1 _ A8.out hG_).mono ?_); rintro e w4 ⟨v2, rfl, ho0, hb⟩; refine ⟨_, rfl, ?_⟩; have P2 := a_ (Kd.R_lower (Kd.R_new' ho0 (Kd.R_lt (hR_ P0.out))) hS_); replace P0 := a_ (Kd.R_elder' (hR_ P0.out) (Kd.R_base ho0) hb); replace HB := a_ (below_step hB_ hb); (try clear hb); (try clear hb2); (try clear hk); (try clear hi); (try clear ho0)) | ((with_reducible refine gate_dst (N := 31) rfl ?_); (try (refine gate_guard (by rfl) ?_; dsimp only)); refine Kd.R_make (Kd.int .u8) _ 5 rfl (N := 31) rfl 33 _ _ rfl ji9 rfl rfl Tryd.underlying33 (.int .u8 0) 1 info5 rfl (by decide) (by omega) 0 (ok := fun _ => True) (okp := fun _ => True) rfl (fun _ hk => hk) trivial (of_decide_eq_true hA_) (Nat.le_trans (Nat.mul_le_mul_right _ (of_decide_eq_true hA_ : ji9.toNat ≤ 281474976710656)) (by omega)) (Below.refl _ _) (Nat.le_refl _) ?_; intro v0 w5 ho18 hb hg_ hnew_; clear hg_ hnew_; (first | rw [← Y1.out] at ho18 | (simp only [Int.reduceToNat] at ho18; rw [← Y1.out] at ho18)); replace P0 := a_ (Kd.R_below (hR_ P0.out) hb); replace P2 := a_ (Kd.R_below (hR_ P2.out) hb); have P4 := a_ (Kd.R_lower ho18 hS_); replace HB := a_ (below_step hB_ hb); clear hb ho18))
 go_loopg [9] k (fun kq v9 w' => ∃ (x0 : List Int) (x1 : Int), v9 = .int .i64 x1 ∧ Aside0 (sleuthlaw4_LexForms.l0 kq t1 x0 x1 = some r) ∧ Aside0 (kq ≤ k) ∧ Aside0 (Kd.R (Kd.int .u8) 5 w' w.heap.size (fun _ => True) v0 x0) ∧ Aside0 (Below w.heap.size w w'))
 case atStart => exact ⟨(y3), (0), hW_, H', ⟨Nat.le_refl _⟩, ⟨hR_ P4.out⟩, ⟨hC_⟩⟩
 case round =>
  clear H'
  try clear c1
  try clear p1
  try clear q1
  try clear h2
  try clear p2
  try clear c4
  try clear c5
  try clear c5b0
  try clear c6
  try clear c6b0
  try clear p6
  try clear c7
  try clear c7b0
  try clear c7b1
  try clear c7b2
  try clear c8
  try clear c10
  try clear c10b0
  try clear c10b1
  try clear c11
  try clear c11b0
  try clear c11b1
  try clear c13
  try clear p14
  try clear q14
  try clear h3
  try clear hji9
  try clear hji9w
  try clear h1
  try clear p141
  try clear q141
  obtain ⟨x0, x1, rfl, HA, HK1, O0, HB⟩ := hrel
  cases gk with
  | zero => exact absurd HA.out (by simp [sleuthlaw4_LexForms.l0])
  | succ k1 =>
   have H := HA.out
   clear HA
   simp only [sleuthlaw4_LexForms.l0] at H
   by_cases c19 : x1 < (x0.length : Int)
   case pos =>
    rw [if_pos c19] at H
    have c19b0 : decide (x1 < (x0.length : Int)) = true := decide_eq_true c19
    clear c19
    replace H := ifI_ H; obtain ⟨c20, H⟩ := H
    have c20b0 : decide (0 ≤ x1) = true := decide_eq_true c20
    clear c20
    obtain ⟨y2, i2⟩ : ∃ y_ : List Int, y_ = (x0.set (x1 : Int).toNat 113) := ⟨_, rfl⟩
    replace H : (sleuthlaw4_LexForms.l0 k1 t1 y2 (wrap64 (x1 + 1))) = some r := by first | (rw [i2]; with_reducible exact H) | (have H2_ := (Option.bind_some _ _).symm.trans H; rw [i2]; with_reducible exact H2_) | (have H2_ := (Option.bind_some _ _).symm.trans H; with_reducible exact H2_) | with_reducible exact H | (rw [i2]; exact H) | exact H
    have Y3 := a_ i2
    clear i2
    have H' := a_ H
    clear H
    obtain ⟨a4, o1, e2⟩ := Kd.R_slice O0.out
    subst e2
    have p21 : 0 ≤ (x1 : Int) := of_decide_eq_true hA_
    have q21 : (x1 : Int) < ((x0.length : Int) : Int) := of_decide_eq_true hA_
    obtain ⟨j0, o3, e0, g0, gl21, cl21, HG21⟩ := Kd.R_form O0.out (by omega)
    (first | cases e0 | (injection e0 with ea_ en_ ec_; (first | subst ea_ | (injection ea_ with ea_; subst ea_)); subst ec_; clear en_))
    have J0 := a_ g0
    have K0 := a_ HG21
    clear g0 gl21 HG21
    obtain ⟨h4, hf21_0⟩ := Kd.R_celln 0 O0.out (x1 : Int) p21 q21
    replace p21 := eq_true p21
    replace q21 := eq_true q21
    have HP23 := Kd.R_putg O0.out (x1 : Int) 113
    go_wp2_with (first | ((with_reducible refine gate_store (t := 5) (p := 40) rfl ?_); refine store_event (t := 5) (p := 40) (v := ?vo_w24) (w1 := (wr.setCell ⟨j0, (x1 : Int).toNat, none⟩ (.int .u8 113))) ?hg ?ho ?hn ?hr ?_; (case ho => rfl); (case hg => rfl); (case hn => rfl); (case hr => first | (go_simp; done) | (go_simp; rfl)); intro w0 hw; have hg : wr.grownBy w0 (some j0) := (by rw [hw]; exact HP23.2); have hp_ : Kd.R (Kd.int .u8) 5 w0 w.heap.size (fun _ => True) (.slice (some ⟨j0, 0, none⟩) x0.length o1) y2 := (by rw [hw, Y3.out]; exact HP23.1); clear HP23; replace O0 := a_ (hp_); replace HB := a_ ((by rw [hw]; exact below_set (HB.out) J0.out : Below w.heap.size w w0)); clear hg hw hp_))
    go_roundg k1
    case measure => have := HK1.out; omega
    case rel => exact ⟨(y2), (wrap64 (x1 + 1)), hW_, H', ⟨by have := HK1.out; omega⟩, ⟨hR_ O0.out⟩, ⟨hC_⟩⟩
   rw [if_neg c19] at H
   have c19b0 : decide (x1 < (x0.length : Int)) = false := decide_eq_false c19
   clear c19
   replace H := Option.bind_eq_some_iff.mp H
   obtain ⟨⟨t9, t5⟩, A250, H⟩ := H
   try dsimp only at H
   have A25 := a_ A250
   clear A250
   replace H := ifI_ H; obtain ⟨c26, H⟩ := H
   have c26b0 := eq_true c26
   have c26b1 : decide (2048 ≤ (x0.length : Int)) = true := decide_eq_true c26
   clear c26
   obtain ⟨y1, i3⟩ : ∃ y_ : List Int, y_ = (x0.take 2048) := ⟨_, rfl⟩
   replace H : ((lex_Words.f (strOfNums y1)).bind fun bt158 => ((sleuthlaw0_Num.f t1).bind fun t2 => (if t2 = 400 then ((sleuthlaw0_Num.f t5).bind fun t3 => (if t3 = 400 then ((sleuthlaw0_Num.f bt158.2).bind fun t4 => (if t4 = 0 then (if (bt158.1.length : Int) = 1 then (if 0 < (bt158.1.length : Int) then (some (((rdOf ByteArray.empty bt158.1 0).size : Int) == 2048)) else (none)) else (none)) else (none))) else (none))) else (none)))) = some r := by first | (rw [i3]; with_reducible exact H) | (have H2_ := (Option.bind_some _ _).symm.trans H; rw [i3]; with_reducible exact H2_) | (have H2_ := (Option.bind_some _ _).symm.trans H; with_reducible exact H2_) | with_reducible exact H | (rw [i3]; exact H) | exact H
   have Y2 := a_ i3
   clear i3
   replace H := Option.bind_eq_some_iff.mp H
   obtain ⟨⟨t0, t6⟩, A270, H⟩ := H
   try dsimp only at H
   have A27 := a_ A270
   clear A270
   replace H := Option.bind_eq_some_iff.mp H
   obtain ⟨t2, A280, H⟩ := H
   try dsimp only at H
   have A28 := a_ A280
   clear A280
   by_cases c29 : t2 = 400
   case neg =>
    rw [if_neg c29] at H
    have c29b0 : (t2 == 400) = false := beq_eq_false_iff_ne.mpr c29
    have c29b1 : (t2 != 400) = true := bne_iff_ne.mpr c29
    cases H
   rw [if_pos c29] at H
   have c29b0 : (t2 == 400) = true := beq_iff_eq.mpr c29
   have c29b1 : (t2 != 400) = false := bne_eq_false_iff_eq.mpr c29
   clear c29
   replace H := Option.bind_eq_some_iff.mp H
   obtain ⟨t3, A300, H⟩ := H
   try dsimp only at H
   have A30 := a_ A300
   clear A300
   by_cases c31 : t3 = 400
   case neg =>
    rw [if_neg c31] at H
    have c31b0 : (t3 == 400) = false := beq_eq_false_iff_ne.mpr c31
    have c31b1 : (t3 != 400) = true := bne_iff_ne.mpr c31
    cases H
   rw [if_pos c31] at H
   have c31b0 : (t3 == 400) = true := beq_iff_eq.mpr c31
   have c31b1 : (t3 != 400) = false := bne_eq_false_iff_eq.mpr c31
   clear c31
   replace H := Option.bind_eq_some_iff.mp H
   obtain ⟨t4, A320, H⟩ := H
   try dsimp only at H
   have A32 := a_ A320
   clear A320
   by_cases c33 : t4 = 0
   case neg =>
    rw [if_neg c33] at H
    have c33b0 : (t4 == 0) = false := beq_eq_false_iff_ne.mpr c33
    have c33b1 : (t4 != 0) = true := bne_iff_ne.mpr c33
    cases H
   rw [if_pos c33] at H
   have c33b0 : (t4 == 0) = true := beq_iff_eq.mpr c33
   have c33b1 : (t4 != 0) = false := bne_eq_false_iff_eq.mpr c33
   clear c33
   by_cases c34 : (t0.length : Int) = 1
   case neg =>
    rw [if_neg c34] at H
    have c34b0 : ((t0.length : Int) == 1) = false := beq_eq_false_iff_ne.mpr c34
    have c34b1 : ((t0.length : Int) != 1) = true := bne_iff_ne.mpr c34
    cases H
   rw [if_pos c34] at H
   have c34b0 : ((t0.length : Int) == 1) = true := beq_iff_eq.mpr c34
   have c34b1 : ((t0.length : Int) != 1) = false := bne_eq_false_iff_eq.mpr c34
   clear c34
   replace H := ifI_ H; obtain ⟨c35, H⟩ := H
   have c35b0 : decide (0 < (t0.length : Int)) = true := decide_eq_true c35
   have c35b1 : decide (0 < t0.length) = true := decide_eq_true (by omega)
   clear c35
   obtain rfl := Option.some.inj H
   obtain ⟨a2, o0, e3⟩ := Kd.R_slice O0.out
   subst e3
   have hcv37 := own_string (P := Tryd.prog) Tryd.underlying33 Tryd.underlying5 Tryd.underlying9 (Kd.own_of_R O0.out)
   go_wp2_with (first | ((with_reducible refine gate_callee (f := 8) rfl ?_); refine goesL_ (some 44) rfl rfl Tryd.func8 (by kernel_rfl) rfl #[.string (strOfNums x0)] rfl hL_ ?_; (with_reducible refine (lex_Words.calls (strOfNums x0) t9 t5 _ A25.out hG_).mono ?_); rintro e w6 ⟨v3, rfl, ho0, hb⟩; refine ⟨_, rfl, ?_⟩; replace O0 := a_ (Kd.R_below (hR_ O0.out) hb); have P1 := a_ (Kd.R_lower ho0 hS_); replace HB := a_ (below_step hB_ hb); (try clear hb); (try clear hb2); (try clear hk); (try clear hi); (try clear ho0); have q39 : (2048 : Int) ≤ ((x0.length : Int) : Int) := of_decide_eq_true hA_; obtain ⟨i039, hi039, _, hsz39, _⟩ := info_parts info5; have hroom39 : x0.length ≤ o0 := (Kd.R_reads' O0.out).2.1; have hC39 : Kd.C (Kd.int .u8) _ a2 x0.length x0 := (Kd.R_reads' O0.out).2.2; have hcut39 := cut_to (P := Tryd.prog) 33 5 .i64 Tryd.underlying33 hi039 a2 x0.length o0 2048 (by omega) q39 hroom39; have hr39 := Kd.C_take (m := 2048) hC39 (by omega); have i4 : y1.length = (2048 : Int).toNat := (by rw [Y2.out, List.length_take]; omega); rw [← Y2.out] at hr39; rw [← i4] at hcut39; have HR157 := a_ hr39; have HC157 := a_ (show y1.length ≤ o0 from by omega); clear hr39 hC39 hroom39 hi039 hsz39; have KY39 := a_ i4; clear i4; have KL39 := a_ (show 2048 ≤ x0.length from by omega); replace q39 := eq_true q39; have hcv40 := Kd.C_string (P := Tryd.prog) (A := a2) (c := o0) Tryd.underlying33 Tryd.underlying5 Tryd.underlying9 (by repeat (first | (with_reducible exact HR157.out) | (with_reducible refine Kd.C_alloc ?_ _) | (with_reducible refine Kd.C_drewN ?_ _) | (with_reducible refine Kd.C_drew ?_) | exact HR157.out))) | ((with_reducible refine gate_callee (f := 8) rfl ?_); refine goesL_ (some 51) rfl rfl Tryd.func8 (by kernel_rfl) rfl #[.string (strOfNums y1)] rfl hL_ ?_; (with_reducible refine (lex_Words.calls (strOfNums y1) t0 t6 _ A27.out hG_).mono ?_); rintro e w7 ⟨v4, rfl, ho0, hb⟩; refine ⟨_, rfl, ?_⟩; replace O0 := a_ (Kd.R_below (hR_ O0.out) hb); have P3 := a_ (Kd.R_lower (Kd.R_new' ho0 (Kd.R_lt (hR_ P1.out))) hS_); replace P1 := a_ (Kd.R_elder' (hR_ P1.out) (Kd.R_base ho0) hb); replace HR157 := a_ (Kd.C_below (by repeat (first | (with_reducible exact HR157.out) | (with_reducible refine Kd.C_alloc ?_ _) | (with_reducible refine Kd.C_drewN ?_ _) | (with_reducible refine Kd.C_drew ?_) | exact HR157.out)) hb); replace HB := a_ (below_step hB_ hb); (try clear hb); (try clear hb2); (try clear hk); (try clear hi); (try clear ho0)) | ((with_reducible refine gate_callee (f := 11) rfl ?_); refine goesL_ _ rfl rfl Tryd.func11 (by kernel_rfl) rfl #[.int .i64 t1] rfl hL_ ?_; (with_reducible refine (sleuthlaw0_Num.calls t1 t2 _ A28.out).mono ?_); rintro e w' ⟨rfl, ⟨nd, rfl⟩⟩; refine ⟨_, rfl, ?_⟩) | (go_at_call 11; (with_reducible refine (sleuthlaw0_Num.calls t5 t3 _ A30.out).mono ?_); rintro e w' ⟨rfl, ⟨nd, rfl⟩⟩) | (go_at_call 11; (with_reducible refine (sleuthlaw0_Num.calls t6 t4 _ A32.out).mono ?_); rintro e w' ⟨rfl, ⟨nd, rfl⟩⟩; obtain ⟨a5, o4, e4⟩ := Kd.R_slice P3.out; subst e4; have p165 : 0 ≤ (0 : Int) := (by omega); have q165 : 0 < (t0.length : Int) := of_decide_eq_true hA_; obtain ⟨d1, e165, h0⟩ := Kd.at_string (Kd.R_reads' P3.out).2.2 0 p165 q165; cases e165; have qi165 : (0 < t0.length) = True := eq_true (by omega); (try rw [show ((0 : Int)).toNat = 0 from rfl] at h0); (try rw [Addr.add_zero'] at h0); replace p165 := eq_true p165; replace q165 := eq_true q165))
   go_ret
   exact ⟨by first | rfl | (simp [errW_none, errW_some] <;> rfl) | (simp only [← hji9]; first | rfl | (simp [errW_none, errW_some] <;> rfl)) | (simp [*, errW_none, errW_some] <;> rfl), hC_⟩
end Go.Proofs.YtljlmkbcichlpaaDoor.G
