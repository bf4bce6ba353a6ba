/- Parts of this proof, one behind the other: G33, G34, G36, HalfVals, HalfMore, TreeMath, TSizes, G39, G40, G41, G42. -/
import Derived.Test.YtijamgfpgdiigaaGreatDoorU2
import Derived.Test.YtijamgfpgdiigaaGreatDoorG0
import Derived.Test.YtijamgfpgdiigaaGreatDoorU8
import Derived.Test.YtijamgfpgdiigaaGreatDoorU7
section
namespace Go.Proofs.YtijamgfpgdiigaaGreatDoor.G
open Go.RowKit Go.Proofs.YtijamgfpgdiigaaGreatDoorW.PrintWords Go.Proofs.YtijamgfpgdiigaaGreatDoorW.PrintLast Go.Proofs.YtijamgfpgdiigaaGreatDoorW.PrintMore
set_option maxHeartbeats 8000000
set_option maxRecDepth 100000
attribute [local go_sem] max2_int min2_int max_two min_two max_three min_three max_four min_four   -- for this text's walks alone
set_option linter.unusedVariables false
set_option linter.unusedSimpArgs false

def half_doubts.l0 : Nat → List (S57) → List Int → Int → List Bool → Int → Option (List Bool)
 | 0, _, _, _, _, _ => none
 | k + 1, x0, x1, x2, x7, x8 => if x8 < (x0.length : Int) then (if 0 ≤ x8 then (if ((rd_T57 x0 x8).f1) = x2 then (if x8 < (x1.length : Int) then (if x8 < (x7.length : Int) then (half_doubts.l0 k x0 x1 x2 (x7.set (x8 : Int).toNat ((rd x1 x8) != 1)) (wrap64 (x8 + 1))) else (none)) else (none)) else (if 0 ≤ ((rd_T57 x0 x8).f1) then (if ((rd_T57 x0 x8).f1) < (x7.length : Int) then (if rdOf false x7 ((rd_T57 x0 x8).f1) = true then (if x8 < (x1.length : Int) then (if x8 < (x7.length : Int) then (half_doubts.l0 k x0 x1 x2 (x7.set (x8 : Int).toNat ((rd x1 x8) != 1)) (wrap64 (x8 + 1))) else (none)) else (none)) else (if x8 < (x7.length : Int) then (half_doubts.l0 k x0 x1 x2 (x7.set (x8 : Int).toNat false) (wrap64 (x8 + 1))) else (none))) else (none)) else (none))) else (none)) else (some x7)
def half_doubts.f (k : Nat) (l0 : List (S57)) (l1 : List Int) (a2 : Int) : Option (List Bool) := if 0 ≤ (l0.length : Int) then (if ((l0.length : Int) : Int).toNat ≤ 281474976710656 then (half_doubts.l0 k l0 l1 a2 (List.replicate ((l0.length : Int) : Int).toNat false) (wrap64 (a2 + 1))) else (none)) else (none)
theorem half_doubts.calls (k : Nat) (A0 : Option Addr) (c0 : Nat) (l0 : List (S57)) (A1 : Option Addr) (c1 : Nat) (l1 : List Int) (a2 : Int) (r : List Bool) (w : World) (hr0 : Kd.C k57 w A0 l0.length l0) (hc0 : l0.length ≤ c0) (hr1 : Kd.C (Kd.int .i64) w A1 l1.length l1) (hc1 : l1.length ≤ c1) (h : half_doubts.f k l0 l1 a2 = some r) :
 Calls Tryz.prog 44 #[.slice A0 l0.length c0, .slice A1 l1.length c1, .int .i64 a2] w fun e w' => ∃ v0_ : Value, e = .returned (v0_) ∧ Kd.R Kd.bool 4 w' w.heap.size (fun _ => True) v0_ r ∧ Below w.heap.size w w' := by
 have HR0 := a_ hr0
 have HC0 := a_ hc0
 clear hr0 hc0
 have HR1 := a_ hr1
 have HC1 := a_ hc1
 clear hr1 hc1
 have HB := a_ (Below.refl w.heap.size w)
 have H := h; unfold half_doubts.f at H
 clear h
 replace H := ifI_ H; obtain ⟨c4, H⟩ := H
 have c4b0 := eq_true c4
 have c4b1 : decide (0 ≤ (l0.length : Int)) = true := decide_eq_true c4
 clear c4
 replace H := ifI_ H; obtain ⟨c5, H⟩ := H
 have c5b0 := eq_true c5
 have c5b1 : decide (((l0.length : Int) : Int).toNat ≤ 281474976710656) = true := decide_eq_true c5
 clear c5
 obtain ⟨y3, i0⟩ : ∃ y_ : List Bool, y_ = (List.replicate ((l0.length : Int) : Int).toNat false) := ⟨_, rfl⟩
 replace H : (half_doubts.l0 k l0 l1 a2 y3 (wrap64 (a2 + 1))) = some r := by first | (rw [i0]; with_reducible exact H) | (have H2_ := (Option.bind_some _ _).symm.trans H; rw [i0]; with_reducible exact H2_) | (have H2_ := (Option.bind_some _ _).symm.trans H; with_reducible exact H2_) | with_reducible exact H | (rw [i0]; exact H) | exact H
 have Y0 := a_ i0
 clear i0
 have H' := a_ H
 clear H
 go_enter Tryz.func44, Tryz.ntmps44
 go_wp2_with (first | ((with_reducible refine gate_dst (N := 12) rfl ?_); refine Kd.R_make Kd.bool _ 4 rfl (N := 12) rfl 69 _ _ rfl (l0.length : Int) rfl rfl Tryz.underlying69 (.bool false) 1 info4 rfl (by decide) (by omega) false (ok := fun _ => True) (okp := fun _ => True) rfl (fun _ hk => hk) trivial (of_decide_eq_true hA_) (Nat.le_trans (Nat.mul_le_mul_right _ (of_decide_eq_true hA_ : (l0.length : Int).toNat ≤ 281474976710656)) (by omega)) (Below.refl _ _) (Nat.le_refl _) ?_; intro v0 w6 ho7 hb hg_ hnew_; clear hg_ hnew_; (first | rw [← Y0.out] at ho7 | (simp only [Int.reduceToNat] at ho7; rw [← Y0.out] at ho7)); have P0 := a_ (Kd.R_lower ho7 hS_); replace HB := a_ (below_step hB_ hb); clear hb ho7))
 go_loopg [8] k (fun kq v8 w' => ∃ (x1 : List Bool) (x0 : Int), v8 = .int .i64 x0 ∧ Aside0 (half_doubts.l0 kq l0 l1 a2 x1 x0 = some r) ∧ Aside0 (kq ≤ k) ∧ Aside0 (Kd.R Kd.bool 4 w' w.heap.size (fun _ => True) v0 x1) ∧ Aside0 (Below w.heap.size w w'))
 case atStart => exact ⟨(y3), (wrap64 (a2 + 1)), hW_, H', ⟨Nat.le_refl _⟩, ⟨hR_ P0.out⟩, ⟨hC_⟩⟩
 case round =>
  clear H'
  try clear c1
  try clear p2
  try clear c4
  try clear c4b0
  try clear c4b1
  try clear c5
  try clear c5b0
  try clear c5b1
  try clear p6
  obtain ⟨x1, x0, rfl, HA, HK1, O0, HB⟩ := hrel
  cases gk with
  | zero => exact absurd HA.out (by simp [half_doubts.l0])
  | succ k1 =>
   have H := HA.out
   clear HA
   simp only [half_doubts.l0] at H
   by_cases c8 : x0 < (l0.length : Int)
   case neg =>
    rw [if_neg c8] at H
    have c8b0 : decide (x0 < (l0.length : Int)) = false := decide_eq_false c8
    clear c8
    obtain rfl := Option.some.inj H
    go_wp2
    go_ret
    exact ⟨_, hV_, hR_ O0.out, hC_⟩
   rw [if_pos c8] at H
   have c8b0 : decide (x0 < (l0.length : Int)) = true := decide_eq_true c8
   clear c8
   replace H := ifI_ H; obtain ⟨c9, H⟩ := H
   have c9b0 : decide (0 ≤ x0) = true := decide_eq_true c9
   clear c9
   by_cases c10 : ((rd_T57 l0 x0).f1) = a2
   case pos =>
    rw [if_pos c10] at H
    have c10b0 : (((rd_T57 l0 x0).f1) == a2) = true := beq_iff_eq.mpr c10
    have c10b1 : (((rd_T57 l0 x0).f1) != a2) = false := bne_eq_false_iff_eq.mpr c10
    clear c10
    replace H := ifI_ H; obtain ⟨c11, H⟩ := H
    have c11b0 : decide (x0 < (l1.length : Int)) = true := decide_eq_true c11
    clear c11
    replace H := ifI_ H; obtain ⟨c12, H⟩ := H
    have c12b0 : decide (x0 < (x1.length : Int)) = true := decide_eq_true c12
    clear c12
    obtain ⟨y0, i1⟩ : ∃ y_ : List Bool, y_ = (x1.set (x0 : Int).toNat ((rd l1 x0) != 1)) := ⟨_, rfl⟩
    replace H : (half_doubts.l0 k1 l0 l1 a2 y0 (wrap64 (x0 + 1))) = some r := by first | (rw [i1]; with_reducible exact H) | (have H2_ := (Option.bind_some _ _).symm.trans H; rw [i1]; with_reducible exact H2_) | (have H2_ := (Option.bind_some _ _).symm.trans H; with_reducible exact H2_) | with_reducible exact H | (rw [i1]; exact H) | exact H
    have Y1 := a_ i1
    clear i1
    have H' := a_ H
    clear H
    have p318 : 0 ≤ (x0 : Int) := of_decide_eq_true hA_
    have q318 : x0 < (l0.length : Int) := of_decide_eq_true hA_
    obtain ⟨d0, A318_2, c318_2, e318, h0, h1, h2, h3, hl318_2, hi318_2⟩ := at_T57 HR0.out x0 p318 q318
    cases e318
    replace h0 := cl_ HB.out h0
    replace h1 := cl_ HB.out h1
    replace h2 := cl_ HB.out h2
    replace h3 := cl_ HB.out h3
    have HR318_2 := a_ hi318_2
    have HC318_2 := a_ hl318_2
    clear hi318_2 hl318_2
    replace p318 := eq_true p318
    replace q318 := eq_true q318
    have p319 : 0 ≤ (x0 : Int) := of_decide_eq_true hA_
    have q319 : x0 < (l1.length : Int) := of_decide_eq_true hA_
    obtain ⟨d2, e319, h5⟩ := Kd.at_int HR1.out x0 p319 q319
    cases e319
    replace h5 := cl_ HB.out h5
    replace p319 := eq_true p319
    replace q319 := eq_true q319
    have p13 : 0 ≤ (x0 : Int) := of_decide_eq_true hA_
    have q13 : (x0 : Int) < ((x1.length : Int) : Int) := of_decide_eq_true hA_
    obtain ⟨j0, o0, e0, g0, gl13, cl13, HG13⟩ := Kd.R_form O0.out (by omega)
    (first | cases e0 | (injection e0 with ea_ en_ ec_; (first | subst ea_ | (injection ea_ with ea_; subst ea_)); subst ec_; clear en_))
    have J0 := a_ g0
    have K0 := a_ HG13
    clear g0 gl13 HG13
    obtain ⟨h7, hf13_0⟩ := Kd.R_celln false O0.out (x0 : Int) p13 q13
    replace p13 := eq_true p13
    replace q13 := eq_true q13
    have HP14 := Kd.R_putg O0.out (x0 : Int) ((rd l1 x0) != 1)
    go_wp2_with (first | ((with_reducible refine gate_store (t := 4) (p := 44) rfl ?_); refine store_event (t := 4) (p := 44) (v := ?vo_w15) (w1 := (wr.setCell ⟨j0, (x0 : Int).toNat, none⟩ (.bool ((rd l1 x0) != 1)))) ?hg ?ho ?hn ?hr ?_; (case ho => rfl); (case hg => rfl); (case hn => rfl); (case hr => first | (go_simp; done) | (go_simp; rfl)); intro w0 hw; have hg : wr.grownBy w0 (some j0) := (by rw [hw]; exact HP14.2); have hp_ : Kd.R Kd.bool 4 w0 w.heap.size (fun _ => True) (.slice (some ⟨j0, 0, none⟩) x1.length o0) y0 := (by rw [hw, Y1.out]; exact HP14.1); clear HP14; replace O0 := a_ (hp_); replace HB := a_ ((by rw [hw]; exact below_set (HB.out) J0.out : Below w.heap.size w w0)); clear hg hw hp_))
    go_roundg k1
    case measure => have := HK1.out; omega
    case rel => exact ⟨(y0), (wrap64 (x0 + 1)), hW_, H', ⟨by have := HK1.out; omega⟩, ⟨hR_ O0.out⟩, ⟨hC_⟩⟩
   rw [if_neg c10] at H
   have c10b0 : (((rd_T57 l0 x0).f1) == a2) = false := beq_eq_false_iff_ne.mpr c10
   have c10b1 : (((rd_T57 l0 x0).f1) != a2) = true := bne_iff_ne.mpr c10
   replace H := ifI_ H; obtain ⟨c16, H⟩ := H
   have c16b0 : decide (0 ≤ ((rd_T57 l0 x0).f1)) = true := decide_eq_true c16
   clear c16
   replace H := ifI_ H; obtain ⟨c17, H⟩ := H
   have c17b0 : decide (((rd_T57 l0 x0).f1) < (x1.length : Int)) = true := decide_eq_true c17
   clear c17
   obtain ⟨bq18, hbq18⟩ : ∃ b_ : Bool, b_ = (rdOf false x1 ((rd_T57 l0 x0).f1)) := ⟨_, rfl⟩
   replace H : (if bq18 = true then (if x0 < (l1.length : Int) then (if x0 < (x1.length : Int) then (half_doubts.l0 k1 l0 l1 a2 (x1.set (x0 : Int).toNat ((rd l1 x0) != 1)) (wrap64 (x0 + 1))) else (none)) else (none)) else (if x0 < (x1.length : Int) then (half_doubts.l0 k1 l0 l1 a2 (x1.set (x0 : Int).toNat false) (wrap64 (x0 + 1))) else (none))) = some r := by rw [← hbq18] at H; exact H
   have Q0 := a_ hbq18
   clear hbq18
   by_cases c19 : bq18 = true
   case neg =>
    replace c19 := Bool.eq_false_iff.mpr c19
    subst c19
    rw [if_neg (show ¬ (false = true) by decide)] at H
    replace H := ifI_ H; obtain ⟨c26, H⟩ := H
    have c26b0 : decide (x0 < (x1.length : Int)) = true := decide_eq_true c26
    clear c26
    obtain ⟨y1, i2⟩ : ∃ y_ : List Bool, y_ = (x1.set (x0 : Int).toNat false) := ⟨_, rfl⟩
    replace H : (half_doubts.l0 k1 l0 l1 a2 y1 (wrap64 (x0 + 1))) = some r := by first | (rw [i2]; with_reducible exact H) | (have H2_ := (Option.bind_some _ _).symm.trans H; rw [i2]; with_reducible exact H2_) | (have H2_ := (Option.bind_some _ _).symm.trans H; with_reducible exact H2_) | with_reducible exact H | (rw [i2]; exact H) | exact H
    have Y2 := a_ i2
    clear i2
    have H' := a_ H
    clear H
    have p318 : 0 ≤ (x0 : Int) := of_decide_eq_true hA_
    have q318 : x0 < (l0.length : Int) := of_decide_eq_true hA_
    obtain ⟨d0, A318_2, c318_2, e318, h0, h1, h2, h3, hl318_2, hi318_2⟩ := at_T57 HR0.out x0 p318 q318
    cases e318
    replace h0 := cl_ HB.out h0
    replace h1 := cl_ HB.out h1
    replace h2 := cl_ HB.out h2
    replace h3 := cl_ HB.out h3
    have HR318_2 := a_ hi318_2
    have HC318_2 := a_ hl318_2
    clear hi318_2 hl318_2
    replace p318 := eq_true p318
    replace q318 := eq_true q318
    obtain ⟨a0, o1, e3⟩ := Kd.R_slice O0.out
    subst e3
    have p321 : 0 ≤ (((rd_T57 l0 x0).f1) : Int) := of_decide_eq_true hA_
    have q321 : ((rd_T57 l0 x0).f1) < (x1.length : Int) := of_decide_eq_true hA_
    obtain ⟨d1, e321, h4⟩ := Kd.at_bool (Kd.R_reads' O0.out).2.2 ((rd_T57 l0 x0).f1) p321 q321
    (try rw [← Q0.out] at h4)
    cases e321
    replace p321 := eq_true p321
    replace q321 := eq_true q321
    have p27 : 0 ≤ (x0 : Int) := of_decide_eq_true hA_
    have q27 : (x0 : Int) < ((x1.length : Int) : Int) := of_decide_eq_true hA_
    obtain ⟨j1, o3, e1, g1, gl27, cl27, HG27⟩ := Kd.R_form O0.out (by omega)
    (first | cases e1 | (injection e1 with ea_ en_ ec_; (first | subst ea_ | (injection ea_ with ea_; subst ea_)); subst ec_; clear en_))
    have J1 := a_ g1
    have K1 := a_ HG27
    clear g1 gl27 HG27
    (first | simp only [add_plain] at h4 | skip)
    obtain ⟨h8, hf27_0⟩ := Kd.R_celln false O0.out (x0 : Int) p27 q27
    replace p27 := eq_true p27
    replace q27 := eq_true q27
    have HP29 := Kd.R_putg O0.out (x0 : Int) false
    go_wp2_with (first | ((with_reducible refine gate_store (t := 4) (p := 44) rfl ?_); refine store_event (t := 4) (p := 44) (v := ?vo_w30) (w1 := (wr.setCell ⟨j1, (x0 : Int).toNat, none⟩ (.bool false))) ?hg ?ho ?hn ?hr ?_; (case ho => rfl); (case hg => rfl); (case hn => rfl); (case hr => first | (go_simp; done) | (go_simp; rfl)); intro w2 hw; have hg : wr.grownBy w2 (some j1) := (by rw [hw]; exact HP29.2); have hp_ : Kd.R Kd.bool 4 w2 w.heap.size (fun _ => True) (.slice (some ⟨j1, 0, none⟩) x1.length o1) y1 := (by rw [hw, Y2.out]; exact HP29.1); clear HP29; replace O0 := a_ (hp_); replace HB := a_ ((by rw [hw]; exact below_set (HB.out) J1.out : Below w.heap.size w w2)); clear hg hw hp_))
    go_roundg k1
    case measure => have := HK1.out; omega
    case rel => exact ⟨(y1), (wrap64 (x0 + 1)), hW_, H', ⟨by have := HK1.out; omega⟩, ⟨hR_ O0.out⟩, ⟨hC_⟩⟩
   subst c19
   rw [if_pos rfl] at H
   replace H := ifI_ H; obtain ⟨c20, H⟩ := H
   have c20b0 : decide (x0 < (l1.length : Int)) = true := decide_eq_true c20
   clear c20
   replace H := ifI_ H; obtain ⟨c21, H⟩ := H
   have c21b0 : decide (x0 < (x1.length : Int)) = true := decide_eq_true c21
   clear c21
   obtain ⟨y2, i3⟩ : ∃ y_ : List Bool, y_ = (x1.set (x0 : Int).toNat ((rd l1 x0) != 1)) := ⟨_, rfl⟩
   replace H : (half_doubts.l0 k1 l0 l1 a2 y2 (wrap64 (x0 + 1))) = some r := by first | (rw [i3]; with_reducible exact H) | (have H2_ := (Option.bind_some _ _).symm.trans H; rw [i3]; with_reducible exact H2_) | (have H2_ := (Option.bind_some _ _).symm.trans H; with_reducible exact H2_) | with_reducible exact H | (rw [i3]; exact H) | exact H
   have Y3 := a_ i3
   clear i3
   have H' := a_ H
   clear H
   have p318 : 0 ≤ (x0 : Int) := of_decide_eq_true hA_
   have q318 : x0 < (l0.length : Int) := of_decide_eq_true hA_
   obtain ⟨d0, A318_2, c318_2, e318, h0, h1, h2, h3, hl318_2, hi318_2⟩ := at_T57 HR0.out x0 p318 q318
   cases e318
   replace h0 := cl_ HB.out h0
   replace h1 := cl_ HB.out h1
   replace h2 := cl_ HB.out h2
   replace h3 := cl_ HB.out h3
   have HR318_2 := a_ hi318_2
   have HC318_2 := a_ hl318_2
   clear hi318_2 hl318_2
   replace p318 := eq_true p318
   replace q318 := eq_true q318
   obtain ⟨a1, o2, e4⟩ := Kd.R_slice O0.out
   subst e4
   have p321 : 0 ≤ (((rd_T57 l0 x0).f1) : Int) := of_decide_eq_true hA_
   have q321 : ((rd_T57 l0 x0).f1) < (x1.length : Int) := of_decide_eq_true hA_
   obtain ⟨d1, e321, h4⟩ := Kd.at_bool (Kd.R_reads' O0.out).2.2 ((rd_T57 l0 x0).f1) p321 q321
   (try rw [← Q0.out] at h4)
   cases e321
   replace p321 := eq_true p321
   replace q321 := eq_true q321
   have p322 : 0 ≤ (x0 : Int) := of_decide_eq_true hA_
   have q322 : x0 < (l1.length : Int) := of_decide_eq_true hA_
   obtain ⟨d3, e322, h6⟩ := Kd.at_int HR1.out x0 p322 q322
   cases e322
   replace h6 := cl_ HB.out h6
   replace p322 := eq_true p322
   replace q322 := eq_true q322
   have p22 : 0 ≤ (x0 : Int) := of_decide_eq_true hA_
   have q22 : (x0 : Int) < ((x1.length : Int) : Int) := of_decide_eq_true hA_
   obtain ⟨j2, o4, e2, g2, gl22, cl22, HG22⟩ := Kd.R_form O0.out (by omega)
   (first | cases e2 | (injection e2 with ea_ en_ ec_; (first | subst ea_ | (injection ea_ with ea_; subst ea_)); subst ec_; clear en_))
   have J2 := a_ g2
   have K2 := a_ HG22
   clear g2 gl22 HG22
   (first | simp only [add_plain] at h4 | skip)
   obtain ⟨h9, hf22_0⟩ := Kd.R_celln false O0.out (x0 : Int) p22 q22
   replace p22 := eq_true p22
   replace q22 := eq_true q22
   have HP24 := Kd.R_putg O0.out (x0 : Int) ((rd l1 x0) != 1)
   go_wp2_with (first | ((with_reducible refine gate_store (t := 4) (p := 44) rfl ?_); refine store_event (t := 4) (p := 44) (v := ?vo_w25) (w1 := (wr.setCell ⟨j2, (x0 : Int).toNat, none⟩ (.bool ((rd l1 x0) != 1)))) ?hg ?ho ?hn ?hr ?_; (case ho => rfl); (case hg => rfl); (case hn => rfl); (case hr => first | (go_simp; done) | (go_simp; rfl)); intro w3 hw; have hg : wr.grownBy w3 (some j2) := (by rw [hw]; exact HP24.2); have hp_ : Kd.R Kd.bool 4 w3 w.heap.size (fun _ => True) (.slice (some ⟨j2, 0, none⟩) x1.length o2) y2 := (by rw [hw, Y3.out]; exact HP24.1); clear HP24; replace O0 := a_ (hp_); replace HB := a_ ((by rw [hw]; exact below_set (HB.out) J2.out : Below w.heap.size w w3)); clear hg hw hp_))
   go_roundg k1
   case measure => have := HK1.out; omega
   case rel => exact ⟨(y2), (wrap64 (x0 + 1)), hW_, H', ⟨by have := HK1.out; omega⟩, ⟨hR_ O0.out⟩, ⟨hC_⟩⟩
set_option maxHeartbeats 8000000
set_option maxRecDepth 100000
attribute [local go_sem] max2_int min2_int max_two min_two max_three min_three max_four min_four   -- for this text's walks alone
set_option linter.unusedVariables false
set_option linter.unusedSimpArgs false

/-- what the program does, from the last node on -/
def sizesL (ns : List S57) (c : Int → Int) : Nat → List Int → List Int
 | 0, o => o
 | n + 1, o =>
  let o1 := o.set n (wrap64 (rd o (n : Int) + c (n : Int)))
  sizesL ns c n (if 0 < n then o1.set ((rd_T57 ns (n : Int)).f1).toNat (wrap64 (rd o1 (rd_T57 ns (n : Int)).f1 + rd o1 (n : Int))) else o1)
def sizesP (ns : List S57) (c : Int → Int) : List Int := sizesL ns c ns.length (List.replicate ns.length 0)
theorem sizesL_len (ns : List S57) (c : Int → Int) : ∀ (n : Nat) (o : List Int), (sizesL ns c n o).length = o.length
 | 0, _ => rfl
 | n + 1, o => by
  rw [sizesL, sizesL_len ns c n]
  split <;> simp
theorem infoIntS : (Tryz.prog.info? 3).map (fun i => (i.zero, i.size, i.bytes)) = some (some (.int .i64 0), 1, 8) := by kernel_rfl
section
attribute [local go_sem] Oper.semAt_some
theorem tree_Sizes.in_ (n : Nat) (hn : 2 ≤ n) (g : Nat) (lb : Array Value) (eg : ∀ args w, (callFunc g args).run Tryz.prog w = .ok (.enter g args) w) (c : Int → Int) (A0 : Option Addr) (c0 : Nat) (l0 : List S57) (h512 : l0.length ≤ 512)
 (hP : ∀ i : Int, 0 ≤ i → i < (l0.length : Int) → ((0 ≤ (rd_T57 l0 i).f1 ∧ (rd_T57 l0 i).f1 < i) ∨ (i = 0 ∧ (rd_T57 l0 i).f1 = -1))) (w : World) (hC : Kd.C k57 w A0 l0.length l0)
 (hc : ∀ (i : Int) (W : World), 0 ≤ i → i < (l0.length : Int) → Below w.heap.size w W → Calls Tryz.prog g (#[.int .i64 i] ++ lb) W fun e W' => e = .returned (.int .i64 (c i)) ∧ ∃ m, W' = W.drewN m) :
 CallsIn Fence.wide n Tryz.prog 46 #[.slice A0 l0.length c0, .func (.func g) #[] lb] w fun e w' => ∃ v, e = .returned v ∧ (Kd.int .i64).R 3 w' w.heap.size (fun _ => True) v (sizesP l0 c) ∧ Below w.heap.size w w' := by
 have HC := a_ hC
 have HCC := a_ hc
 have HPP := a_ hP
 clear hC hc hP
 have ffg : Fence.wide.fn g := trivial
 have hmk := print_make_of (P := Tryz.prog) 44 3 (.int .i64 0) 8 Tryz.underlying44 infoIntS rfl (by omega) l0.length (by omega)
 have hmix : Tryz.prog.follows .mixedOrders = true := by kernel_rfl
 refine callsIn_of_wp Tryz.func46 rfl trivial ?_ rfl
 simp only [Tryz.ntmps46, List.size_toArray, List.length_cons, List.length_nil, Nat.reduceAdd, Nat.reduceSub, Array.replicate_succ, Array.replicate_zero, List.push_toArray, List.append_toArray, List.nil_append, List.cons_append]
 have HO := a_ (own_made_of (enc := Value.int .i64) (d := (0 : Int)) w w.heap.size 3 l0.length (Nat.le_refl _) (by omega))
 gi_wp2
 gi_loopw [6] (fun v wr => ∃ x : Int, v = .int .i64 x ∧ Aside0 (-1 ≤ x ∧ x < (l0.length : Int)) ∧ Aside0 (∃ o : List Int, o.length = l0.length ∧ wr.ownsRow w.heap.size 3 1 (.slice (some ⟨w.heap.size, 0, none⟩) l0.length l0.length) l0.length (encs (Value.int .i64) o) ∧ sizesL l0 c (x + 1).toNat o = sizesP l0 c) ∧ Aside0 (Below w.heap.size w wr))
  (fun v _ => (intOf v + 1).toNat)
 case atStart =>
  exact ⟨(l0.length : Int) - 1, by first | rfl | (congr 1; omega) | (simp; omega), ⟨by omega, by omega⟩, ⟨List.replicate l0.length 0, by simp, HO.out, by rw [show ((l0.length : Int) - 1 + 1).toNat = l0.length by omega]; rfl⟩, ⟨(Below.refl _ w).alloc (Nat.le_refl _) _⟩⟩
 case round =>
  obtain ⟨x, rfl, HX, HJ, HB⟩ := hrel
  clear hmk
  by_cases hx : 0 ≤ x
  case neg =>
   have hxb := decide_eq_false hx
   have HN := a_ hx
   clear hx
   gi_wp2
   go_ret
   obtain ⟨o, ho, hrow, hsz⟩ := HJ.out
   rw [show (x + 1).toNat = 0 by have := HX.out; have := HN.out; omega, sizesL] at hsz
   subst hsz
   exact ⟨_, rfl, Kd.R_of_own (by rw [ho]; exact hrow) (fun _ _ => trivial), HB.out⟩
  have hxb := decide_eq_true hx
  have hlt : x < (l0.length : Int) := HX.out.2
  obtain ⟨o, ho, hrow, hsz⟩ := HJ.out
  obtain ⟨hcx, hfx⟩ := own_at_of (d := (0 : Int)) hrow x hx hlt
  have HR := a_ (And.intro ho (And.intro hrow (And.intro hsz hx)))
  clear ho hrow hsz
  replace hlt := eq_true hlt
  replace hx := eq_true hx
  have HQ := a_ (fun k => HCC.out x (wr.drewN k) (of_eq_true hx) (of_eq_true hlt) (below_dn HB.out k))
  gi_wp2
  refine wpIn_region_head 9 rfl hmix (by kernel_rfl) ?_
  simp only [List.take_succ_cons, List.take_zero, List.drop_succ_cons, List.drop_zero]
  iterate 6 (quiet_step_in (fail))
  quiet_step_in (exact ⟨fun _ => by omega, CallsIn.quiet_of (callsIn_wide.2 (HQ.out _))⟩)
  iterate 2 (quiet_step_in (fail))
  refine wpQuietIn_nil ?_
  intro _ hw'
  obtain ⟨nq, hw''⟩ := hw'
  subst hw''
  by_cases hx1 : 0 < x
  case neg =>
   have hx1b := decide_eq_false hx1
   gi_wp2
   obtain ⟨ho, hrow, hsz, hX⟩ := HR.out
   have hst := (own_store_of (enc := Value.int .i64) (W := wr.drewN nq) hrow x (wrap64 (rdOf 0 o x + c x))).1
   have hb2 : Below w.heap.size w ((wr.drewN nq).setCell ⟨w.heap.size, x.toNat, none⟩ (Value.int .i64 (wrap64 (rdOf 0 o x + c x)))) := (below_dn HB.out nq).setCell (p := ⟨w.heap.size, x.toNat, none⟩) (Nat.le_refl _) _
   obtain rfl : x = 0 := by omega
   rw [show wrap64 ((0 : Int) - 1) = -1 from by unfold wrap64; omega]
   refine ⟨⟨-1, rfl, ⟨by omega, by omega⟩, ⟨_, by simpa using ho, hst, ?_⟩, ⟨hb2⟩⟩, by decide⟩
   rw [← hsz]
   rfl
  have hx1b := decide_eq_true hx1
  gi_wp2
  obtain ⟨ho, hrow, hsz, _⟩ := HR.out
  have hst := (own_store_of (enc := Value.int .i64) (W := wr.drewN nq) hrow x (wrap64 (rdOf 0 o x + c x))).1
  have hb2 : Below w.heap.size w ((wr.drewN nq).setCell ⟨w.heap.size, x.toNat, none⟩ (Value.int .i64 (wrap64 (rdOf 0 o x + c x)))) := (below_dn HB.out nq).setCell (p := ⟨w.heap.size, x.toNat, none⟩) (Nat.le_refl _) _
  obtain ⟨W2, hW2⟩ : ∃ W2, (wr.drewN nq).setCell ⟨w.heap.size, x.toNat, none⟩ (Value.int .i64 (wrap64 (rdOf 0 o x + c x))) = W2 := ⟨_, rfl⟩
  obtain ⟨o1, ho1⟩ : ∃ o1, o1 = o.set x.toNat (wrap64 (rdOf 0 o x + c x)) := ⟨_, rfl⟩
  rw [hW2] at hst hb2 ⊢
  rw [← ho1] at hst
  have hX := HR.out.2.2.2
  have hpx := HPP.out x hX (of_eq_true hlt)
  obtain ⟨ad, A2, c2, e0, g0, g1, g2, g3, hl2, hi2⟩ := at_T57 HC.out x hX (of_eq_true hlt)
  cases e0
  replace g1 := (hb2.cell (World.block_lt_of_cell? w _ g1)).trans g1
  have hp0 : 0 ≤ (rd_T57 l0 x).f1 := by omega
  have hp1 : (rd_T57 l0 x).f1 < (l0.length : Int) := by have := of_eq_true hlt; omega
  obtain ⟨hc1, hf1⟩ := own_at_of (d := (0 : Int)) hst x hX (of_eq_true hlt)
  obtain ⟨hc2, hf2⟩ := own_at_of (d := (0 : Int)) hst (rd_T57 l0 x).f1 hp0 hp1
  have HS := a_ (And.intro hst (And.intro hb2 (And.intro ho1 (And.intro hp0 (And.intro hp1 hx1)))))
  clear hst hb2 hW2 ho1 hpx g0 g2 g3 hl2 hi2 hcx hfx ho hrow hsz hX hx1 hx1b
  replace hp0 := eq_true hp0
  replace hp1 := eq_true hp1
  refine wpIn_region_head 14 rfl hmix (by kernel_rfl) ?_
  simp only [List.take_succ_cons, List.take_zero, List.drop_succ_cons, List.drop_zero]
  iterate 14 (quiet_step_in (fail))
  refine wpQuietIn_nil ?_
  intro _ hw'
  obtain ⟨nq2, hw''⟩ := hw'
  subst hw''
  gi_wp2
  obtain ⟨hst, hb2, ho1, hp0', hp1', hx1'⟩ := HS.out
  obtain ⟨ho, hrow, hsz, hX⟩ := HR.out
  have hw1 : wrap64 (x - 1) = x - 1 := by have := HX.out; unfold wrap64; omega
  rw [hw1]
  refine ⟨⟨x - 1, rfl, ⟨by omega, by have := HX.out; omega⟩, ⟨_, by rw [List.length_set, ho1, List.length_set]; exact ho, (own_store_of (enc := Value.int .i64) (W := W2.drewN nq2) hst (rd_T57 l0 x).f1 _).1, ?_⟩, ⟨(below_dn hb2 nq2).setCell (p := ⟨w.heap.size, (rd_T57 l0 x).f1.toNat, none⟩) (Nat.le_refl _) _⟩⟩, by simp only [intOf]; omega⟩
  rw [← hsz, show (x + 1).toNat = x.toNat + 1 by omega, show (x - 1 + 1).toNat = x.toNat by omega, sizesL]
  simp only [show ((x.toNat : Nat) : Int) = x by omega]
  rw [if_pos (show 0 < x.toNat by omega), ho1]
  rfl
end

set_option maxHeartbeats 8000000
set_option maxRecDepth 100000
attribute [local go_sem] max2_int min2_int max_two min_two max_three min_three max_four min_four   -- for this text's walks alone
set_option linter.unusedVariables false
set_option linter.unusedSimpArgs false

def openB (d : List Bool) (ms : List Int) (i : Int) : Bool := rdOf false d i && (rd ms i == 0)
def oneB (d : List Bool) (ms : List Int) (i : Int) : Int := if openB d ms i = true then 1 else 0
def szH (ns : List S57) (d : List Bool) (ms : List Int) : List Int := sizesP ns (oneB d ms)
def offW (x m : Int) : Int := mx (wrap64 (wrap64 (2 * x) - m)) (wrap64 (m - wrap64 (2 * x)))
theorem off_calls (x m : Int) (W : World) : Calls Tryz.prog 48 #[.int .i64 x, .int .i64 m] W fun e W' => e = .returned (.int .i64 (offW x m)) ∧ W' = W := by
 unfold offW mx
 by_cases c : wrap64 (wrap64 (2 * x) - m) < wrap64 (m - wrap64 (2 * x))
 case pos =>
  rw [if_pos c]
  go_enter Tryz.func48, Tryz.ntmps48
  go_wp2
  go_ret
  exact ⟨rfl, rfl⟩
 rw [if_neg c]
 go_enter Tryz.func48, Tryz.ntmps48
 go_wp2
 go_ret
 exact ⟨rfl, rfl⟩
def bestH (sz : List Int) (d : List Bool) (ms : List Int) (m : Int) : Nat → Int
 | 0 => -1
 | n + 1 => if openB d ms (n : Int) = true ∧ (bestH sz d ms m n < 0 ∨ offW (rd sz (n : Int)) m < offW (rd sz (bestH sz d ms m n)) m) then (n : Int) else bestH sz d ms m n
theorem bestH_range (sz : List Int) (d : List Bool) (ms : List Int) (m : Int) : ∀ n : Nat, -1 ≤ bestH sz d ms m n ∧ bestH sz d ms m n < (n : Int)
 | 0 => ⟨Int.le_refl _, by show (-1 : Int) < 0; omega⟩
 | n + 1 => by
  have := bestH_range sz d ms m n
  rw [bestH]
  split <;> omega
def parB (ns : List S57) : Bool := (List.range ns.length).all fun i => decide ((0 ≤ (rd_T57 ns (i : Int)).f1 ∧ (rd_T57 ns (i : Int)).f1 < (i : Int)) ∨ ((i : Int) = 0 ∧ (rd_T57 ns (i : Int)).f1 = -1))
theorem parB_at {ns : List S57} (h : parB ns = true) (i : Int) (h0 : 0 ≤ i) (h1 : i < (ns.length : Int)) : ((0 ≤ (rd_T57 ns i).f1 ∧ (rd_T57 ns i).f1 < i) ∨ (i = 0 ∧ (rd_T57 ns i).f1 = -1)) := by
 have := of_decide_eq_true (List.all_eq_true.1 h i.toNat (List.mem_range.2 (by omega)))
 rw [show ((i.toNat : Nat) : Int) = i by omega] at this
 exact this
def half_Ask.f (k : Nat) (l0 : List S57) (l1 : List Int) : Option (Int × Int) :=
 if 0 < l0.length ∧ l0.length ≤ 512 ∧ l1.length = l0.length ∧ parB l0 = true then
  (if rd l1 0 = 2 then (half_last.f k l1).bind fun w => (half_doubts.f k l0 l1 w).bind fun d =>
   if 0 ≤ w ∧ w < (l0.length : Int) ∧ d.length = l0.length then
    (if bestH (szH l0 d l1) d l1 (rd (szH l0 d l1) w) l0.length < 0 then top_Bug.f l0 l1 w else some (0, bestH (szH l0 d l1) d l1 (rd (szH l0 d l1) w) l0.length)) else none
  else top_Ask.f k l0 l1) else none
theorem open_calls (W : World) (Bd Bm : Nat) (d : List Bool) (ms : List Int) (Ad : Option Addr) (cd : Nat) (A1 : Option Addr) (c1 : Nat) (hd : W.cell? ⟨Bd, 0, none⟩ = some (.slice Ad d.length cd)) (hm : W.cell? ⟨Bm, 0, none⟩ = some (.slice A1 ms.length c1))
 (hD : Kd.C Kd.bool W Ad d.length d) (hM : Kd.C (Kd.int .i64) W A1 ms.length ms) (i : Int) (h0 : 0 ≤ i) (h1 : i < (d.length : Int)) (h2 : i < (ms.length : Int)) :
 Calls Tryz.prog 45 #[.int .i64 i, .pointer (some ⟨Bd, 0, none⟩), .pointer (some ⟨Bm, 0, none⟩)] W fun e W' => e = .returned (.bool (openB d ms i)) ∧ W' = W := by
 obtain ⟨ad, e0, g0⟩ := Kd.at_bool hD i h0 h1
 cases e0
 obtain ⟨am, e1, g1⟩ := Kd.at_int hM i h0 h2
 cases e1
 unfold openB
 clear hD hM
 replace h0 := eq_true h0
 replace h1 := eq_true h1
 replace h2 := eq_true h2
 cases hb : rdOf false d i with
 | true =>
  rw [hb] at g0
  rw [Bool.true_and]
  go_enter Tryz.func45, Tryz.ntmps45
  go_wp2
  go_ret
  exact ⟨rfl, rfl⟩
 | false =>
  rw [hb] at g0
  rw [Bool.false_and]
  go_enter Tryz.func45, Tryz.ntmps45
  go_wp2
  go_ret
  exact ⟨rfl, rfl⟩
theorem one_calls (W : World) (Bf Bd Bm : Nat) (d : List Bool) (ms : List Int) (Ad : Option Addr) (cd : Nat) (A1 : Option Addr) (c1 : Nat) (hf : W.cell? ⟨Bf, 0, none⟩ = some (.func (.func 45) #[] #[.pointer (some ⟨Bd, 0, none⟩), .pointer (some ⟨Bm, 0, none⟩)])) (hd : W.cell? ⟨Bd, 0, none⟩ = some (.slice Ad d.length cd)) (hm : W.cell? ⟨Bm, 0, none⟩ = some (.slice A1 ms.length c1))
 (hD : Kd.C Kd.bool W Ad d.length d) (hM : Kd.C (Kd.int .i64) W A1 ms.length ms) (i : Int) (h0 : 0 ≤ i) (h1 : i < (d.length : Int)) (h2 : i < (ms.length : Int)) :
 Calls Tryz.prog 47 #[.int .i64 i, .pointer (some ⟨Bf, 0, none⟩)] W fun e W' => e = .returned (.int .i64 (oneB d ms i)) ∧ ∃ m, W' = W.drewN m := by
 have h : Calls Tryz.prog 47 #[.int .i64 i, .pointer (some ⟨Bf, 0, none⟩)] W fun e W' => e = .returned (.int .i64 (oneB d ms i)) ∧ W' = W := by
  have HO := a_ (open_calls W Bd Bm d ms Ad cd A1 c1 hd hm hD hM i h0 h1 h2)
  clear hd hm hD hM
  unfold oneB
  cases ho : openB d ms i with
  | true =>
   rw [ho] at HO
   rw [if_pos rfl]
   go_enter Tryz.func47, Tryz.ntmps47
   go_wp2_with (first
    | (go_at_call 45; refine HO.out.mono ?_; rintro e w5 ⟨rfl, rfl⟩))
   go_ret
   exact ⟨rfl, rfl⟩
  | false =>
   rw [ho] at HO
   rw [if_neg Bool.false_ne_true]
   go_enter Tryz.func47, Tryz.ntmps47
   go_wp2_with (first
    | (go_at_call 45; refine HO.out.mono ?_; rintro e w5 ⟨rfl, rfl⟩))
   go_ret
   exact ⟨rfl, rfl⟩
 exact h.mono fun e W' ⟨h1, h2⟩ => ⟨h1, 0, h2⟩
def Half8 (w : World) (am : Addr) (c1 : Nat) (l1 : List Int) (Ad : Option Addr) (cd : Nat) (d : List Bool) (Bd Bf : Nat) (w8 : World) : Prop :=
 (Below w.heap.size w w8 ∧ Boxed w8 w.heap.size 44 (.slice (some am) l1.length c1) ∧ Boxed2 w8 (w.heap.size + 1) 48 (.int .i64 0) (.int .i64 0)) ∧
 (Boxed w8 Bd 69 (.slice Ad d.length cd) ∧ Boxed w8 Bf 50 (.func (.func 45) #[] #[.pointer (some ⟨Bd, 0, none⟩), .pointer (some ⟨w.heap.size, 0, none⟩)])) ∧ Kd.C Kd.bool w8 Ad d.length d ∧ Kd.C (Kd.int .i64) w8 (some am) l1.length l1
theorem half_sizes (n : Nat) (hn : 2 ≤ n) (w W2 w6 W6a W7 : World) (nd : Nat) (A0 : Option Addr) (c0 : Nat) (l0 : List (S57)) (am : Addr) (c1 : Nat) (l1 : List Int) (Ad : Option Addr) (cd : Nat) (d : List Bool)
 (hr0 : Kd.C k57 w A0 l0.length l0) (hr1 : Kd.C (Kd.int .i64) w (some am) l1.length l1) (h512 : l0.length ≤ 512) (hp : parB l0 = true) (hl : l1.length = l0.length) (hdl : d.length = l0.length)
 (h2 : Below w.heap.size w W2 ∧ Boxed W2 w.heap.size 44 (.slice (some am) l1.length c1) ∧ Boxed2 W2 (w.heap.size + 1) 48 (.int .i64 0) (.int .i64 0))
 (hR6 : Kd.R Kd.bool 4 w6 (W2.drewN nd).heap.size (fun _ => True) (.slice Ad d.length cd) d) (hb6 : Below (W2.drewN nd).heap.size (W2.drewN nd) w6)
 (h6a : (w6.alloc (.cells #[.slice none 0 0] 69)).setCell ⟨w6.heap.size, 0, none⟩ (.slice Ad d.length cd) = W6a)
 (h7 : W6a.alloc (.cells #[.func (.func 45) #[] #[.pointer (some ⟨w6.heap.size, 0, none⟩), .pointer (some ⟨w.heap.size, 0, none⟩)]] 50) = W7) :
 CallsIn Fence.wide n Tryz.prog 46 #[.slice A0 l0.length c0, .func (.func 47) #[] #[.pointer (some ⟨W6a.heap.size, 0, none⟩)]] W7 fun e w8 =>
  ∃ Az cz, e = .returned (.slice Az l0.length cz) ∧ Kd.C (Kd.int .i64) w8 Az l0.length (szH l0 d l1) ∧ Half8 w am c1 l1 Ad cd d w6.heap.size W6a.heap.size w8 := by
 have sz : ∀ (W : World) (p : Addr) (v : Value), (W.setCell p v).heap.size = W.heap.size := fun W p v => by show (W.heap.modify _ _).size = _; rw [Array.size_modify]
 have e6 : W6a.heap.size = w6.heap.size + 1 := by rw [← h6a, sz]; simp
 have e7 : W7.heap.size = w6.heap.size + 2 := by rw [← h7, World.size_alloc, e6]
 have s2 := h2.2.2.lt
 have s6 : W2.heap.size ≤ w6.heap.size := hb6.size
 have B6a : Below w6.heap.size w6 W6a := by rw [← h6a]; exact ((Below.refl _ w6).alloc (Nat.le_refl _) _).setCell (p := ⟨w6.heap.size, 0, none⟩) (Nat.le_refl _) _
 have B7 : Below w6.heap.size w6 W7 := by rw [← h7]; exact B6a.alloc (by omega) _
 have bd6 : Boxed W6a w6.heap.size 69 (.slice Ad d.length cd) := by rw [← h6a]; exact (Boxed.new w6 _ _).set _
 have bd : Boxed W7 w6.heap.size 69 (.slice Ad d.length cd) := by rw [← h7]; exact bd6.alloc _
 have bf : Boxed W7 W6a.heap.size 50 (.func (.func 45) #[] #[.pointer (some ⟨w6.heap.size, 0, none⟩), .pointer (some ⟨w.heap.size, 0, none⟩)]) := by rw [← h7]; exact Boxed.new W6a _ _
 have hB6 : Below w.heap.size w w6 := (below_dn h2.1 nd).trans (hb6.mono h2.1.size)
 have hB7 : Below w.heap.size w W7 := hB6.trans (B7.mono hB6.size)
 have m6 : Boxed w6 w.heap.size 44 (.slice (some am) l1.length c1) := (hb6.block _ (by show w.heap.size < W2.heap.size; omega)).trans h2.2.1
 have r6 : Boxed2 w6 (w.heap.size + 1) 48 (.int .i64 0) (.int .i64 0) := (hb6.block _ (by show w.heap.size + 1 < W2.heap.size; omega)).trans h2.2.2
 have m7 : Boxed W7 w.heap.size 44 (.slice (some am) l1.length c1) := (B7.block _ (by omega)).trans m6
 have r7 : Boxed2 W7 (w.heap.size + 1) 48 (.int .i64 0) (.int .i64 0) := (B7.block _ (by omega)).trans r6
 have d7 : Kd.C Kd.bool W7 Ad d.length d := Kd.C_below (Kd.R_reads' hR6).2.2 B7
 have c7 : Kd.C (Kd.int .i64) W7 (some am) l1.length l1 := Kd.C_below hr1 hB7
 refine (tree_Sizes.in_ n hn 47 #[.pointer (some ⟨W6a.heap.size, 0, none⟩)] (enters_of Tryz.func47 (by kernel_rfl) rfl) (oneB d l1) A0 c0 l0 h512 (parB_at hp) W7 (Kd.C_below hr0 hB7)
  (fun i W h0 h1 hb => one_calls W W6a.heap.size w6.heap.size w.heap.size d l1 Ad cd (some am) c1 (Boxed.cell (show Boxed W W6a.heap.size _ _ from (hb.block _ (by omega)).trans bf)) (Boxed.cell (show Boxed W w6.heap.size _ _ from (hb.block _ (by omega)).trans bd)) (Boxed.cell (show Boxed W w.heap.size _ _ from (hb.block _ (by omega)).trans m7)) (Kd.C_below d7 hb) (Kd.C_below c7 hb) i h0 (by omega) (by omega))).mono ?_
 rintro e w8 ⟨v, rfl, hr, hb⟩
 obtain ⟨Az, cz, rfl, hlz, hC⟩ := Kd.R_reads hr
 have hlen : (szH l0 d l1).length = l0.length := by show (sizesP l0 (oneB d l1)).length = _; unfold sizesP; rw [sizesL_len, List.length_replicate]
 have hC' : Kd.C (Kd.int .i64) w8 Az (szH l0 d l1).length (szH l0 d l1) := hC
 rw [hlen] at hC'
 have e9 : (sizesP l0 (oneB d l1)).length = l0.length := hlen
 refine ⟨Az, cz, by rw [e9], hC', ⟨hB7.trans (hb.mono hB7.size), (hb.block _ (by omega)).trans m7, (hb.block _ (by omega)).trans r7⟩, ⟨(hb.block _ (by omega)).trans bd, (hb.block _ (by omega)).trans bf⟩, Kd.C_below d7 hb, Kd.C_below c7 hb⟩
theorem run_store_func (P : Program) (w : World) (a : Addr) (m : Mode) (f : Fn) (x y : Array Value) : (store a (.func f x y) m).run P w = stored P w a (.func f x y) m := run_store P w a _ m rfl
section
attribute [local go_sem] Oper.semAt_some run_store_func
theorem half_Ask.inW (n : Nat) (hn : 4 ≤ n) (k : Nat) (A0 : Option Addr) (c0 : Nat) (l0 : List (S57)) (A1 : Option Addr) (c1 : Nat) (l1 : List Int) (wg : Int) (d : List Bool) (r1 r2 : Int) (w : World) (hr0 : Kd.C k57 w A0 l0.length l0) (hc0 : l0.length ≤ c0) (hr1 : Kd.C (Kd.int .i64) w A1 l1.length l1) (hc1 : l1.length ≤ c1)
 (h0 : rd l1 0 = 2) (hn0 : 0 < l0.length) (h512 : l0.length ≤ 512) (hl : l1.length = l0.length) (hp : parB l0 = true) (hL : half_last.f k l1 = some wg) (hD : half_doubts.f k l0 l1 wg = some d) (hw0 : 0 ≤ wg) (hw1 : wg < (l0.length : Int)) (hdl : d.length = l0.length)
 (hr : (if bestH (szH l0 d l1) d l1 (rd (szH l0 d l1) wg) l0.length < 0 then top_Bug.f l0 l1 wg else some (0, bestH (szH l0 d l1) d l1 (rd (szH l0 d l1) wg) l0.length)) = some (r1, r2)) :
 CallsIn Fence.wide n Tryz.prog 35 #[.slice A0 l0.length c0, .slice A1 l1.length c1] w fun e w' => e = .returned (.agg #[.int .i64 r1, .int .i64 r2]) ∧ Below w.heap.size w w' := by
 have hn1 : 1 ≤ n := by omega
 obtain ⟨am, e, g⟩ := Kd.at_int hr1 0 (by omega) (by omega)
 cases e
 have HR0 := a_ hr0
 have HC0 := a_ hc0
 have HR1 := a_ hr1
 have HC1 := a_ hc1
 have HL := a_ hL
 have HD := a_ hD
 have HRR := a_ hr
 have HM := a_ (And.intro hw0 (And.intro hw1 (And.intro hl (And.intro h512 (And.intro hdl (And.intro hn0 hp))))))
 have hmix : Tryz.prog.follows .mixedOrders = true := by kernel_rfl
 have hu := Tryz.underlying48
 have hB2 : Below w.heap.size w ((w.alloc (.cells #[.slice (some am) l1.length c1] 44)).alloc (.cells #[.int .i64 0, .int .i64 0] 48)) := ((Below.refl _ w).alloc (Nat.le_refl _) _).alloc (by simp) _
 have bx0 := ((Boxed.new w 44 (.slice (some am) l1.length c1)).alloc (.cells #[.int .i64 0, .int .i64 0] 48))
 have bx1 := Boxed2.new (w.alloc (.cells #[.slice (some am) l1.length c1] 44)) 48 (.int .i64 0) (.int .i64 0)
 simp only [World.size_alloc] at bx1
 have g1 := (hB2.cell (World.block_lt_of_cell? w _ g)).trans g
 rw [h0] at g1
 have cb := bx0.cell
 have HB2 := a_ (And.intro hB2 (And.intro bx0 bx1))
 have hpos : ((0 : Int) < (l1.length : Int)) = True := eq_true (by omega)
 have hposn : (0 < l1.length) = True := eq_true (by omega)
 clear hr0 hc0 hr1 hc1 hL hD hr hw0 hw1 hl h512 hdl hn0 hp g h0 bx0 bx1 hB2
 obtain ⟨W2, hW2⟩ : ∃ W2, (w.alloc (.cells #[.slice (some am) l1.length c1] 44)).alloc (.cells #[.int .i64 0, .int .i64 0] 48) = W2 := ⟨_, rfl⟩
 rw [hW2] at g1 cb HB2
 rw [show am.add (Int.toNat 0) = am from by cases am; rfl] at g1
 refine callsIn_of_wp Tryz.func35 rfl trivial ?_ rfl
 simp only [Tryz.ntmps35, List.size_toArray, List.length_cons, List.length_nil, Nat.reduceAdd, Nat.reduceSub, Array.replicate_succ, Array.replicate_zero, List.push_toArray, List.append_toArray, List.nil_append, List.cons_append]
 have ff1 : Fence.wide.fn 43 := trivial
 have ff2 : Fence.wide.fn 44 := trivial
 have ff3 : Fence.wide.fn 46 := trivial
 have ff4 : Fence.wide.fn 45 := trivial
 have ff5 : Fence.wide.fn 48 := trivial
 have ff6 : Fence.wide.fn 49 := trivial
 have ls2 : w.heap.size + 1 < W2.heap.size := HB2.out.2.2.lt
 have LS2 := a_ ls2
 clear ls2
 gi_wp2_with (first
  | (gi_at_call 43; refine ((callsIn_wide (n := n - 1)).2 (half_last.calls k _ _ l1 wg _ (Kd.C_below HR1.out HB2.out.1) HC1.out HL.out)).mono ?_; rintro e w5 ⟨rfl, ⟨nd, rfl⟩⟩; have cb5 : (W2.drewN nd).cell? ⟨w.heap.size, 0, none⟩ = some (.slice (some am) l1.length c1) := HB2.out.2.1.cell)
  | (gi_at_call 44; refine ((callsIn_wide (n := n - 1)).2 (half_doubts.calls k _ _ l0 _ _ l1 wg d _ (Kd.C_below HR0.out (below_dn HB2.out.1 _)) HC0.out (Kd.C_below HR1.out (below_dn HB2.out.1 _)) HC1.out HD.out)).mono ?_; rintro e w6 ⟨v6, rfl, hR6, hb6⟩; obtain ⟨Ad, cd, e6⟩ := Kd.R_slice hR6; subst e6; have cb6 : w6.cell? ⟨w.heap.size, 0, none⟩ = some (.slice (some am) l1.length c1) := (hb6.cell (p := ⟨w.heap.size, 0, none⟩) (Nat.lt_of_succ_lt LS2.out)).trans HB2.out.2.1.cell; have HX6 := a_ (And.intro hR6 hb6); clear hR6 hb6; obtain ⟨W6a, hW6a⟩ : ∃ W6a, (w6.alloc (.cells #[.slice none 0 0] 69)).setCell ⟨w6.heap.size, 0, none⟩ (.slice Ad d.length cd) = W6a := ⟨_, rfl⟩)
  | (gi_at_call 46; generalize hW7 : World.alloc _ _ = W7; refine (half_sizes (n - 1) (by omega) w W2 w6 W6a W7 _ A0 c0 l0 am c1 l1 Ad cd d HR0.out HR1.out HM.out.2.2.2.1 HM.out.2.2.2.2.2.2 HM.out.2.2.1 HM.out.2.2.2.2.1 HB2.out HX6.out.1 HX6.out.2 hW6a hW7).mono ?_; rintro e w8 ⟨Az, cz, rfl, hz8, h8⟩; obtain ⟨az, e8, g8⟩ := Kd.at_int hz8 wg HM.out.1 HM.out.2.1; subst e8; have p8 := eq_true HM.out.1; have q8 := eq_true HM.out.2.1; have HZ := a_ (And.intro hz8 h8); clear hz8 h8 hW7 hW6a cb cb5 cb6 g1 hpos hposn hW2))
 clear g8 p8 q8
 obtain ⟨sz, hsz⟩ : ∃ sz, szH l0 d l1 = sz := ⟨_, rfl⟩
 rw [hsz] at HZ HRR
 simp only [hsz]
 obtain ⟨m, hm⟩ : ∃ m, rd sz wg = m := ⟨_, rfl⟩
 rw [hm] at HRR
 simp only [hm]
 gi_loopw [10, 36] (fun v10 v36 wr => ∃ b x : Int, v10 = .int .i64 b ∧ v36 = .int .i64 x ∧ Aside0 (0 ≤ x ∧ x ≤ (l0.length : Int)) ∧ Aside0 (b = bestH sz d l1 m x.toNat ∧ ∃ q, wr = w8.drewN q))
  (fun _ v _ => l0.length - (intOf v).toNat)
 case atStart => exact ⟨-1, 0, by first | rfl | (congr 1; omega), by first | rfl | (congr 1; omega), ⟨by omega, by omega⟩, ⟨rfl, 0, rfl⟩⟩
 case round =>
  obtain ⟨b, x, rfl, rfl, HX, HBq⟩ := hrel
  obtain ⟨hb, q, hq⟩ := HBq.out
  have hbr := bestH_range sz d l1 m x.toNat
  rw [← hb] at hbr
  obtain ⟨⟨hB8, bm8, br8⟩, ⟨bd8, bf8⟩, hd8, hc8⟩ := HZ.out.2
  have hz8 := HZ.out.1
  by_cases hlt : x < (l0.length : Int)
  case neg =>
   have hltb := decide_eq_false hlt
   have hxl : x.toNat = l0.length := by have := HX.out; omega
   rw [hxl] at hb
   clear hbr
   rw [← hb] at HRR
   have hm' : wr.cell? ⟨w.heap.size, 0, none⟩ = some (.slice (some am) l1.length c1) := by rw [hq]; exact bm8.cell
   have hr' : Boxed2 wr (w.heap.size + 1) 48 (.int .i64 0) (.int .i64 0) := by rw [hq]; exact br8
   have hB' : Below w.heap.size w wr := by rw [hq]; exact below_dn hB8 q
   have HE := a_ (And.intro hr' hB')
   clear hlt hq hz8 hB8 bm8 br8 bd8 bf8 hd8 hc8 hxl
   have f0_ := hr'.f0
   have f1_ := hr'.f1
   have c0_ := hr'.c0
   have c1_ := hr'.c1
   clear hr' hB'
   by_cases hb0 : b < 0
   case neg =>
    have hrr := HRR.out
    rw [if_neg hb0] at hrr
    clear hb HBq
    obtain ⟨e1_, e2_⟩ := Prod.mk.inj (Option.some.inj hrr)
    subst e1_
    subst e2_
    have hb0b := decide_eq_false hb0
    clear hb0 hrr HRR
    gi_wp2
    refine bodyPost_ret (results_cell_row rfl _ _ (w.heap.size + 1) 48 #[.int .i64 0, .int .i64 b] (0, 0) _ rfl (HE.out.1.put _ _) Tryz.underlying48 rfl (by kernel_rfl)) rfl ⟨rfl, ?_⟩
    exact (HE.out.2.setCell (p := ⟨w.heap.size + 1, 0, none⟩) (Nat.le_succ _) _).setCell (p := ⟨w.heap.size + 1, 1, none⟩) (Nat.le_succ _) _
   have hb0b := decide_eq_true hb0
   have hrr := HRR.out
   rw [if_pos hb0] at hrr
   have HB0 := a_ hrr
   clear hb0 hrr hb
   gi_wp2_with (first
    | (gi_at_call 49; refine ((callsIn_wide (n := n - 1)).2 (top_Bug.calls _ _ l0 _ _ l1 wg r1 r2 _ (Kd.C_below HR0.out HE.out.2) HC0.out (Kd.C_below HR1.out HE.out.2) HC1.out HB0.out)).mono ?_; rintro e w9 ⟨rfl, hb9⟩; have hr9 : Boxed2 w9 (w.heap.size + 1) 48 (.int .i64 0) (.int .i64 0) := (hb9.block _ HE.out.1.lt).trans HE.out.1; have HE9 := a_ (And.intro hr9 (HE.out.2.trans (hb9.mono HE.out.2.size))); have f90 := hr9.f0; have f91 := hr9.f1; have c90 := hr9.c0; have c91 := hr9.c1; clear hr9 hb9))
   refine bodyPost_ret (results_cell_row rfl _ _ (w.heap.size + 1) 48 #[.int .i64 r1, .int .i64 r2] (0, 0) _ rfl (HE9.out.1.put _ _) Tryz.underlying48 rfl (by kernel_rfl)) rfl ⟨rfl, ?_⟩
   exact (HE9.out.2.setCell (p := ⟨w.heap.size + 1, 0, none⟩) (Nat.le_succ _) _).setCell (p := ⟨w.heap.size + 1, 1, none⟩) (Nat.le_succ _) _
  have hltb := decide_eq_true hlt
  have hx0 : 0 ≤ x := HX.out.1
  obtain ⟨az', e9, g9⟩ := Kd.at_int hz8 x hx0 hlt
  cases e9
  have g9' : wr.cell? (az.add x.toNat) = some (.int .i64 (rd sz x)) := by rw [hq]; exact g9
  have cf : wr.cell? ⟨W6a.heap.size, 0, none⟩ = some (.func (.func 45) #[] #[.pointer (some ⟨w6.heap.size, 0, none⟩), .pointer (some ⟨w.heap.size, 0, none⟩)]) := by rw [hq]; exact bf8.cell
  have HQ := a_ (fun k => (open_calls (wr.drewN k) w6.heap.size w.heap.size d l1 Ad cd (some am) c1 (by rw [hq]; exact bd8.cell) (by rw [hq]; exact bm8.cell) (by rw [hq]; exact hd8) (by rw [hq]; exact hc8) x hx0 (by have := HM.out.2.2.2.2.1; omega) (by have := HM.out.2.2.1; omega)).mono (R' := fun e W' => e = .returned (.bool (openB d l1 x)) ∧ ∃ m, W' = (wr.drewN k).drewN m) (fun e W' ⟨h1, h2⟩ => ⟨h1, 0, h2⟩))
  have HF := a_ (fun (y : Int) k => (off_calls y m (wr.drewN k)).mono (R' := fun e W' => e = .returned (.int .i64 (offW y m)) ∧ ∃ q, W' = (wr.drewN k).drewN q) (fun e W' ⟨h1, h2⟩ => ⟨h1, 0, h2⟩))
  have HK := a_ (And.intro hb (And.intro hq (And.intro hbr (And.intro hx0 hlt))))
  have hw1 : wrap64 (x + 1) = x + 1 := by have := HM.out.2.2.2.1; unfold wrap64; omega
  have HW := a_ hw1
  have hbx : bestH sz d l1 m (x + 1).toNat = if openB d l1 x = true ∧ (b < 0 ∨ offW (rd sz x) m < offW (rd sz b) m) then x else b := by
   rw [show (x + 1).toNat = x.toNat + 1 by omega, bestH, ← hb, show ((x.toNat : Nat) : Int) = x by omega]
  have HBX := a_ hbx
  have hms : l0.length - (x + 1).toNat < l0.length - x.toNat := by omega
  have HMS := a_ hms
  have hx9 : 0 ≤ x + 1 ∧ x + 1 ≤ (l0.length : Int) := by omega
  have HX9 := a_ hx9
  clear hb hq hbr hw1 hbx hms hx9 hz8 hB8 bm8 br8 bd8 bf8 hd8 hc8 g9
  replace hlt := eq_true hlt
  replace hx0 := eq_true hx0
  cases ho : openB d l1 x with
  | false =>
   rw [ho] at HQ HBX
   clear ho
   gi_wp2
   refine wpIn_region_quiet_lit rfl hmix (by kernel_rfl) ?_
   iterate 2 (quiet_step_in (fail))
   quiet_step_in (exact CallsIn.quiet_of (callsIn_wide.2 (HQ.out _)))
   quiet_step_in (fail)
   iterate 14 (refine BigFrame.wpQuietIn_skip (fun _ _ _ _ => trivial) (by first | rfl | kernel_rfl | simp [Region.wanted, yielded]) ?_; simp only [Act.put, List.setIfInBounds_toArray, List.set_cons_succ, List.set_cons_zero])
   quiet_step_in (fail)
   refine wpQuietIn_nil ?_
   intro _ hw'
   obtain ⟨nq, hw''⟩ := hw'
   subst hw''
   gi_wp2
   rw [HW.out]
   exact ⟨⟨b, x + 1, rfl, rfl, ⟨HX9.out⟩, ⟨by rw [HBX.out]; simp, q + nq, by rw [HK.out.2.1]; exact World.drewN_drewN _ _ _⟩⟩, by simp only [intOf]; exact HMS.out⟩
  | true =>
   rw [ho] at HQ HBX
   clear ho
   by_cases hb0 : b < 0
   case pos =>
    have hb0b := decide_eq_true hb0
    have HB0 := a_ hb0
    clear hb0
    gi_wp2
    refine wpIn_region_quiet_lit rfl hmix (by kernel_rfl) ?_
    iterate 2 (quiet_step_in (fail))
    quiet_step_in (exact CallsIn.quiet_of (callsIn_wide.2 (HQ.out _)))
    iterate 4 (quiet_step_in (fail))
    iterate 10 (refine BigFrame.wpQuietIn_skip (fun _ _ _ _ => trivial) (by first | rfl | kernel_rfl | simp [Region.wanted, yielded]) ?_; simp only [Act.put, List.setIfInBounds_toArray, List.set_cons_succ, List.set_cons_zero])
    iterate 2 (quiet_step_in (fail))
    refine wpQuietIn_nil ?_
    intro _ hw'
    obtain ⟨nq, hw''⟩ := hw'
    subst hw''
    gi_wp2
    rw [HW.out]
    exact ⟨⟨x, x + 1, rfl, rfl, ⟨HX9.out⟩, ⟨by rw [HBX.out]; simp [HB0.out], q + nq, by rw [HK.out.2.1]; exact World.drewN_drewN _ _ _⟩⟩, by simp only [intOf]; exact HMS.out⟩
   have hb0b := decide_eq_false hb0
   have hb1 : 0 ≤ b := by omega
   have hb2 : b < (l0.length : Int) := by have := HK.out.2.2.1.2; have := HX.out; omega
   obtain ⟨az'', e9, g10⟩ := Kd.at_int HZ.out.1 b hb1 hb2
   cases e9
   have g10' : wr.cell? (az.add b.toNat) = some (.int .i64 (rd sz b)) := by rw [HK.out.2.1]; exact g10
   have HB0 := a_ hb0
   clear hb0 g10
   replace hb1 := eq_true hb1
   replace hb2 := eq_true hb2
   obtain ⟨o1, ho1⟩ : ∃ o1, offW (rd sz x) m = o1 := ⟨_, rfl⟩
   obtain ⟨o2, ho2⟩ : ∃ o2, offW (rd sz b) m = o2 := ⟨_, rfl⟩
   have H1 := a_ (fun k => HF.out (rd sz x) k)
   have H2 := a_ (fun k => HF.out (rd sz b) k)
   rw [ho1] at H1 HBX
   rw [ho2] at H2 HBX
   by_cases hoo : o1 < o2
   case pos =>
    have hoob := decide_eq_true hoo
    have HOO := a_ hoo
    clear hoo ho1 ho2
    gi_wp2
    refine wpIn_region_quiet_lit rfl hmix (by kernel_rfl) ?_
    iterate 2 (quiet_step_in (fail))
    quiet_step_in (exact CallsIn.quiet_of (callsIn_wide.2 (HQ.out _)))
    iterate 6 (quiet_step_in (fail))
    quiet_step_in (exact CallsIn.quiet_of (callsIn_wide.2 (H1.out _)))
    iterate 5 (quiet_step_in (fail))
    quiet_step_in (exact CallsIn.quiet_of (callsIn_wide.2 (H2.out _)))
    iterate 3 (quiet_step_in (fail))
    refine wpQuietIn_nil ?_
    intro _ hw'
    obtain ⟨nq, hw''⟩ := hw'
    subst hw''
    gi_wp2
    rw [HW.out]
    exact ⟨⟨x, x + 1, rfl, rfl, ⟨HX9.out⟩, ⟨by rw [HBX.out]; simp [HOO.out], q + nq, by rw [HK.out.2.1]; exact World.drewN_drewN _ _ _⟩⟩, by simp only [intOf]; exact HMS.out⟩
   have hoob := decide_eq_false hoo
   have HOO := a_ hoo
   clear hoo ho1 ho2
   gi_wp2
   refine wpIn_region_quiet_lit rfl hmix (by kernel_rfl) ?_
   iterate 2 (quiet_step_in (fail))
   quiet_step_in (exact CallsIn.quiet_of (callsIn_wide.2 (HQ.out _)))
   iterate 6 (quiet_step_in (fail))
   quiet_step_in (exact CallsIn.quiet_of (callsIn_wide.2 (H1.out _)))
   iterate 5 (quiet_step_in (fail))
   quiet_step_in (exact CallsIn.quiet_of (callsIn_wide.2 (H2.out _)))
   iterate 3 (quiet_step_in (fail))
   refine wpQuietIn_nil ?_
   intro _ hw'
   obtain ⟨nq, hw''⟩ := hw'
   subst hw''
   gi_wp2
   rw [HW.out]
   exact ⟨⟨b, x + 1, rfl, rfl, ⟨HX9.out⟩, ⟨by rw [HBX.out, if_neg (fun h => by have h1 := HB0.out; have h2 := HOO.out; have h3 := h.2; omega)], q + nq, by rw [HK.out.2.1]; exact World.drewN_drewN _ _ _⟩⟩, by simp only [intOf]; exact HMS.out⟩
end
theorem half_Ask.calls (k : Nat) (A0 : Option Addr) (c0 : Nat) (l0 : List (S57)) (A1 : Option Addr) (c1 : Nat) (l1 : List Int) (r1 : Int) (r2 : Int) (w : World) (hr0 : Kd.C k57 w A0 l0.length l0) (hc0 : l0.length ≤ c0) (hr1 : Kd.C (Kd.int .i64) w A1 l1.length l1) (hc1 : l1.length ≤ c1) (h : half_Ask.f k l0 l1 = some (r1, r2)) (hG : GOK w) :
 Calls Tryz.prog 35 #[.slice A0 l0.length c0, .slice A1 l1.length c1] w fun e w' => e = .returned (.agg #[.int .i64 r1, .int .i64 r2]) ∧ Below w.heap.size w w' := by
 unfold half_Ask.f at h
 by_cases cg : 0 < l0.length ∧ l0.length ≤ 512 ∧ l1.length = l0.length ∧ parB l0 = true
 case neg =>
  rw [if_neg cg] at h; cases h

 rw [if_pos cg] at h
 by_cases c2 : rd l1 0 = 2
 case pos =>
  rw [if_pos c2] at h
  obtain ⟨wg, hL, h⟩ := Option.bind_eq_some_iff.mp h
  obtain ⟨d, hD, h⟩ := Option.bind_eq_some_iff.mp h
  by_cases cw : 0 ≤ wg ∧ wg < (l0.length : Int) ∧ d.length = l0.length
  case neg =>
   rw [if_neg cw] at h; cases h
  rw [if_pos cw] at h
  exact (callsIn_wide (n := 4)).1 (half_Ask.inW 4 (by omega) k A0 c0 l0 A1 c1 l1 wg d r1 r2 w hr0 hc0 hr1 hc1 c2 cg.1 cg.2.1 cg.2.2.1 cg.2.2.2 hL hD cw.1 cw.2.1 cw.2.2 h)
 rw [if_neg c2] at h
 obtain ⟨am, e, g⟩ := Kd.at_int hr1 0 (by omega) (by omega)
 cases e
 have HR0 := a_ hr0
 have HC0 := a_ hc0
 have HR1 := a_ hr1
 have HC1 := a_ hc1
 have HA := a_ h
 have hB2 : Below w.heap.size w ((w.alloc (.cells #[.slice (some am) l1.length c1] 44)).alloc (.cells #[.int .i64 0, .int .i64 0] 48)) := ((Below.refl _ w).alloc (Nat.le_refl _) _).alloc (by simp) _
 have bx0 := ((Boxed.new w 44 (.slice (some am) l1.length c1)).alloc (.cells #[.int .i64 0, .int .i64 0] 48))
 have bx1 := Boxed2.new (w.alloc (.cells #[.slice (some am) l1.length c1] 44)) 48 (.int .i64 0) (.int .i64 0)
 simp only [World.size_alloc] at bx1
 have g1 := (hB2.cell (World.block_lt_of_cell? w _ g)).trans g
 rw [show am.add (Int.toNat 0) = am from by cases am; rfl] at g1
 have cb := bx0.cell
 have HB2 := a_ (And.intro hB2 (And.intro bx0 bx1))
 have hpos : ((0 : Int) < (l1.length : Int)) = True := eq_true (by omega)
 have hposn : (0 < l1.length) = True := eq_true (by omega)
 have hne : (rd l1 0 != 2) = true := bne_iff_ne.2 c2
 have hu := Tryz.underlying48
 obtain ⟨W2, hW2⟩ : ∃ W2, (w.alloc (.cells #[.slice (some am) l1.length c1] 44)).alloc (.cells #[.int .i64 0, .int .i64 0] 48) = W2 := ⟨_, rfl⟩
 rw [hW2] at g1 cb HB2
 have HG := a_ hG
 clear hr0 hc0 hr1 hc1 h g bx0 bx1 hB2 cg c2 hG
 go_enter Tryz.func35, Tryz.ntmps35
 go_wp2_with (first
  | (go_at_call 36; (refine (top_Ask.calls k _ _ l0 _ _ l1 r1 r2 _ (Kd.C_below HR0.out HB2.out.1) HC0.out (Kd.C_below HR1.out HB2.out.1) HC1.out HA.out).mono ?_); rintro e w9 ⟨rfl, hb9⟩; have hr9 : Boxed2 w9 (w.heap.size + 1) 48 (.int .i64 0) (.int .i64 0) := (hb9.block _ HB2.out.2.2.lt).trans HB2.out.2.2; have HE9 := a_ (And.intro hr9 (HB2.out.1.trans (hb9.mono HB2.out.1.size))); have f90 := hr9.f0; have f91 := hr9.f1; have c90 := hr9.c0; have c91 := hr9.c1; clear hr9 hb9))
 refine bodyPost_ret (results_cell_row rfl _ _ (w.heap.size + 1) 48 #[.int .i64 r1, .int .i64 r2] (0, 0) _ rfl (HE9.out.1.put _ _) Tryz.underlying48 rfl (by kernel_rfl)) rfl ⟨rfl, ?_⟩
 exact (HE9.out.2.setCell (p := ⟨w.heap.size + 1, 0, none⟩) (Nat.le_succ _) _).setCell (p := ⟨w.heap.size + 1, 1, none⟩) (Nat.le_succ _) _
end Go.Proofs.YtijamgfpgdiigaaGreatDoor.G
end
section
namespace Go.Proofs.YtijamgfpgdiigaaGreatDoor.G
open Go.RowKit Go.Proofs.YtijamgfpgdiigaaGreatDoorW.PrintWords Go.Proofs.YtijamgfpgdiigaaGreatDoorW.PrintLast Go.Proofs.YtijamgfpgdiigaaGreatDoorW.PrintMore
set_option linter.unusedVariables false
set_option linter.unusedSimpArgs false
def lastM (ms : List Int) : Nat → Int
  | 0 => 0
  | n + 1 => if rd ms (n : Int) = 2 then (n : Int) else lastM ms n
theorem lastM_range (ms : List Int) : ∀ n : Nat, 0 < n → 0 ≤ lastM ms n ∧ lastM ms n < (n : Int)
  | 0, h => absurd h (by omega)
  | n + 1, _ => by
    rw [lastM]
    split
    · omega
    · rcases Nat.eq_zero_or_pos n with c | c
      · subst c; show (0 : Int) ≤ 0 ∧ (0 : Int) < _; omega
      · have := lastM_range ms n c; omega
theorem last_half_l0 (ms : List Int) (hl : ms.length ≤ 9223372036854775806) : ∀ n i : Nat, i + n = ms.length → Ev (fun k => half_last.l0 k (lastM ms i) ms (ms.length : Int) (i : Int)) (lastM ms ms.length) := by
  intro n
  induction n with
  | zero =>
    intro i hi
    obtain rfl : i = ms.length := by omega
    refine Ev.step (f := fun _ => some (lastM ms ms.length)) (fun k => ?_) (Ev.now _)
    rw [half_last.l0, if_neg (by omega)]
  | succ n ih =>
    intro i hi
    have hw : wrap64 ((i : Int) + 1) = ((i + 1 : Nat) : Int) := by rw [w64 (by omega) (by omega)]; omega
    refine Ev.step (f := fun k => half_last.l0 k (lastM ms (i + 1)) ms (ms.length : Int) ((i + 1 : Nat) : Int)) (fun k => ?_) (ih (i + 1) (by omega))
    rw [half_last.l0, if_pos (by omega), if_pos (by omega), if_pos (by omega), hw, lastM]
    by_cases c : rd ms (i : Int) = 2
    · rw [if_pos c, if_pos c]
    · rw [if_neg c, if_neg c]
theorem last_half_ev (ms : List Int) (hl : ms.length ≤ 9223372036854775806) : Ev (fun k => half_last.f k ms) (lastM ms ms.length) := last_half_l0 ms hl ms.length 0 (by omega)
/-- which nodes are in doubt, up to place n -/
def dbt (ns : List Nd) (ms : List Int) (w : Nat) : Nat → List Bool
  | 0 => List.replicate ns.length false
  | n + 1 => if n ≤ w then dbt ns ms w n else
    (dbt ns ms w n).set n ((decide (pa ns n = (w : Int)) || rdOf false (dbt ns ms w n) (pa ns n)) && (rd ms (n : Int) != 1))
theorem dbt_len (ns : List Nd) (ms : List Int) (w : Nat) : ∀ n : Nat, (dbt ns ms w n).length = ns.length
  | 0 => List.length_replicate
  | n + 1 => by
    rw [dbt]
    split
    · exact dbt_len ns ms w n
    · rw [List.length_set]; exact dbt_len ns ms w n
theorem doubts_l0 {ns : List Nd} {ms : List Int} (h : marksS ns ms = true) (w : Nat) : ∀ n i : Nat, w < i → i + n = ns.length → Ev (fun k => half_doubts.l0 k ns ms (w : Int) (dbt ns ms w i) (i : Int)) (dbt ns ms w ns.length) := by
  obtain ⟨hm, hl, _⟩ := marksS_spec h
  have hlen := mayT_len hm
  intro n
  induction n with
  | zero =>
    intro i hw hi
    obtain rfl : i = ns.length := by omega
    refine Ev.step (f := fun _ => some (dbt ns ms w ns.length)) (fun k => ?_) (Ev.now _)
    rw [half_doubts.l0, if_neg (by omega)]
  | succ n ih =>
    intro i hwi hi
    have hp := mayT_pa hm i (by omega)
    have hw : wrap64 ((i : Int) + 1) = ((i + 1 : Nat) : Int) := by rw [w64 (by omega) (by omega)]; omega
    have hdl := dbt_len ns ms w i
    have hp' : (rd_T57 ns (i : Int)).f1 = pa ns i := rfl
    refine Ev.step (f := fun k => half_doubts.l0 k ns ms (w : Int) (dbt ns ms w (i + 1)) ((i + 1 : Nat) : Int)) (fun k => ?_) (ih (i + 1) (by omega) (by omega))
    rw [half_doubts.l0, if_pos (by omega), if_pos (by omega), hw, dbt, if_neg (show ¬ i ≤ w by omega), hp', Int.toNat_natCast]
    by_cases c : pa ns i = (w : Int)
    · rw [if_pos c, if_pos (by omega), if_pos (by omega), decide_eq_true c, Bool.true_or, Bool.true_and]
    · rw [if_neg c, if_pos (by omega), if_pos (by omega), decide_eq_false c, Bool.false_or]
      cases hb : rdOf false (dbt ns ms w i) (pa ns i) with
      | true => rw [if_pos rfl, if_pos (by omega), if_pos (by omega), Bool.true_and]
      | false => rw [if_neg Bool.false_ne_true, if_pos (by omega), Bool.false_and]
theorem dbt_low (ns : List Nd) (ms : List Int) (w : Nat) : ∀ n : Nat, n ≤ w + 1 → dbt ns ms w n = List.replicate ns.length false
  | 0, _ => rfl
  | n + 1, h => by rw [dbt, if_pos (by omega)]; exact dbt_low ns ms w n (by omega)
theorem doubts_ev {ns : List Nd} {ms : List Int} (h : marksS ns ms = true) (w : Nat) (hw : w < ns.length) : Ev (fun k => half_doubts.f k ns ms (w : Int)) (dbt ns ms w ns.length) := by
  obtain ⟨hm, hl, _⟩ := marksS_spec h
  have hlen := mayT_len hm
  have hw1 : wrap64 ((w : Int) + 1) = ((w + 1 : Nat) : Int) := by rw [w64 (by omega) (by omega)]; omega
  unfold half_doubts.f
  have g1 : (0 : Int) ≤ (ns.length : Int) := by omega
  have g2 : ns.length ≤ 281474976710656 := by omega
  simp only [if_pos g1, hw1, Int.toNat_natCast]
  simp only [if_pos g2]
  have := doubts_l0 h w (ns.length - (w + 1)) (w + 1) (by omega) (by omega)
  rw [dbt_low ns ms w (w + 1) (Nat.le_refl _)] at this
  exact this
theorem parB_of {ns : List Nd} (h : mayT ns = true) : parB ns = true := by
  unfold parB
  refine List.all_eq_true.2 fun i hi => decide_eq_true ?_
  have := mayT_pa h i (List.mem_range.1 hi)
  show (0 ≤ pa ns i ∧ pa ns i < (i : Int)) ∨ ((i : Int) = 0 ∧ pa ns i = -1)
  omega
def askH (ns : List Nd) (ms : List Int) : Int × Int :=
  if rd ms 0 = 2 then
    (if bestH (szH ns (dbt ns ms (lastM ms ms.length).toNat ns.length) ms) (dbt ns ms (lastM ms ms.length).toNat ns.length) ms (rd (szH ns (dbt ns ms (lastM ms ms.length).toNat ns.length) ms) (lastM ms ms.length)) ns.length < 0 then bugS ns ms (lastM ms ms.length)
      else (0, bestH (szH ns (dbt ns ms (lastM ms ms.length).toNat ns.length) ms) (dbt ns ms (lastM ms ms.length).toNat ns.length) ms (rd (szH ns (dbt ns ms (lastM ms ms.length).toNat ns.length) ms) (lastM ms ms.length)) ns.length))
  else askT ns ms
theorem askH_ev {ns : List Nd} {ms : List Int} (h : marksS ns ms = true) : Ev (fun k => half_Ask.f k ns ms) (askH ns ms) := by
  obtain ⟨hm, hl, _⟩ := marksS_spec h
  have hlen := mayT_len hm
  unfold half_Ask.f askH
  have cg : 0 < ns.length ∧ ns.length ≤ 512 ∧ ms.length = ns.length ∧ parB ns = true := ⟨hlen.1, hlen.2, hl, parB_of hm⟩
  simp only [if_pos cg]
  by_cases c : rd ms 0 = 2
  · simp only [if_pos c]
    have hr := lastM_range ms ms.length (by omega)
    refine Ev.bind (last_half_ev ms (by omega)) ?_
    obtain ⟨w, hw⟩ : ∃ w : Nat, lastM ms ms.length = (w : Int) := ⟨(lastM ms ms.length).toNat, by omega⟩
    rw [hw]
    rw [hw] at hr
    refine Ev.bind (doubts_ev h w (by omega)) ?_
    have cw : 0 ≤ (w : Int) ∧ (w : Int) < (ns.length : Int) ∧ (dbt ns ms w ns.length).length = ns.length := ⟨by omega, by omega, dbt_len ns ms w ns.length⟩
    simp only [if_pos cw, Int.toNat_natCast]
    by_cases cb : bestH (szH ns (dbt ns ms w ns.length) ms) (dbt ns ms w ns.length) ms (rd (szH ns (dbt ns ms w ns.length) ms) (w : Int)) ns.length < 0
    · simp only [if_pos cb, bug_eq h (w : Int) (by omega) (by omega)]; exact Ev.now _
    · simp only [if_neg cb]; exact Ev.now _
  · simp only [if_neg c]
    exact ask_ev h
theorem bestH_spec (sz : List Int) (d : List Bool) (ms : List Int) (m : Int) : ∀ n : Nat, 0 ≤ bestH sz d ms m n → openB d ms (bestH sz d ms m n) = true
  | 0, h => absurd h (by show ¬ (0 : Int) ≤ -1; omega)
  | n + 1, h => by
    rw [bestH] at h ⊢
    by_cases c : openB d ms (n : Int) = true ∧ (bestH sz d ms m n < 0 ∨ offW (rd sz (n : Int)) m < offW (rd sz (bestH sz d ms m n)) m)
    · rw [if_pos c]; exact c.1
    · rw [if_neg c] at h ⊢
      exact bestH_spec sz d ms m n h
theorem rdOf_set (l : List Bool) (i j : Nat) (v : Bool) : rdOf false (l.set i v) (j : Int) = if j = i ∧ i < l.length then v else rdOf false l (j : Int) := by
  show List.getD _ _ _ = if _ then _ else List.getD _ _ _
  rw [Int.toNat_natCast, List.getD_eq_getElem?_getD, List.getD_eq_getElem?_getD, List.getElem?_set]
  by_cases c : i = j
  · subst c
    by_cases d : i < l.length
    · rw [if_pos rfl, if_pos d, if_pos ⟨rfl, d⟩]; rfl
    · rw [if_pos rfl, if_neg d, if_neg (fun h => d h.2), List.getElem?_eq_none (by omega)]
  · rw [if_neg c, if_neg (fun h => c h.1.symm)]
theorem rdOf_rep (n : Nat) (j : Int) : rdOf false (List.replicate n false) j = false := by
  show List.getD _ _ _ = _
  rw [List.getD_eq_getElem?_getD, List.getElem?_replicate]
  split <;> rfl
theorem dbt_spec {ns : List Nd} (hm : mayT ns = true) (ms : List Int) (w : Nat) : ∀ n : Nat, n ≤ ns.length → ∀ j : Nat, rdOf false (dbt ns ms w n) (j : Int) = true → w < j ∧ j < n ∧ rd ms (j : Int) ≠ 1 ∧ (pa ns j = (w : Int) ∨ (0 ≤ pa ns j ∧ rdOf false (dbt ns ms w n) (pa ns j) = true))
  | 0, _, j, h => by rw [dbt, rdOf_rep] at h; cases h
  | n + 1, hn, j, h => by
    rw [dbt] at h
    by_cases c : n ≤ w
    · rw [if_pos c, dbt_low ns ms w n (by omega), rdOf_rep] at h; cases h
    · rw [if_neg c, rdOf_set] at h
      have hp := mayT_pa hm n (by omega)
      by_cases e : j = n ∧ n < (dbt ns ms w n).length
      · rw [if_pos e] at h
        obtain ⟨rfl, he⟩ := e
        rw [Bool.and_eq_true, Bool.or_eq_true, decide_eq_true_iff, bne_iff_ne] at h
        refine ⟨by omega, by omega, h.2, h.1.elim .inl fun hh => .inr ⟨by omega, ?_⟩⟩
        obtain ⟨p, hpp⟩ : ∃ p : Nat, pa ns j = (p : Int) := ⟨(pa ns j).toNat, by omega⟩
        rw [dbt, if_neg c, hpp, rdOf_set, if_neg (by omega), ← hpp]
        exact hh
      · rw [if_neg e] at h
        obtain ⟨h1, h2, h3, h4⟩ := dbt_spec hm ms w n (by omega) j h
        refine ⟨h1, by omega, h3, h4.elim .inl fun hh => .inr ⟨hh.1, ?_⟩⟩
        have hpj := mayT_pa hm j (by omega)
        obtain ⟨p, hpp⟩ : ∃ p : Nat, pa ns j = (p : Int) := ⟨(pa ns j).toNat, by omega⟩
        rw [dbt, if_neg c, hpp, rdOf_set, if_neg (by omega), ← hpp]
        exact hh.2
end Go.Proofs.YtijamgfpgdiigaaGreatDoor.G
end
section
namespace Go.Proofs.YtijamgfpgdiigaaGreatDoor.G
open Go.RowKit
set_option linter.unusedVariables false
set_option linter.unusedSimpArgs false
def Par (ps : List Int) : Prop := ∀ i, i < ps.length → (i = 0 ∧ ps.getD i (-1) = -1) ∨ (0 < i ∧ 0 ≤ ps.getD i (-1) ∧ ps.getD i (-1) < i)
def upB (ps : List Int) (p : Nat) : Nat → Nat → Bool
  | 0, _ => false
  | n + 1, j => j == p || (decide (0 ≤ ps.getD j (-1)) && upB ps p n (ps.getD j (-1)).toNat)
/-- does j stand below p (or is it p)? -/
def dsc (ps : List Int) (p j : Nat) : Bool := upB ps p (j + 1) j
theorem upB_fuel {ps : List Int} (hp : Par ps) (p : Nat) : ∀ n j m, j < ps.length → j < n → j < m → upB ps p n j = upB ps p m j := by
  intro n
  induction n with
  | zero => intro j m _ h; omega
  | succ n ih =>
    intro j m hj hn hm
    cases m with
    | zero => omega
    | succ m =>
      rw [upB, upB]
      by_cases c : 0 ≤ ps.getD j (-1)
      · have := hp j hj
        rw [ih (ps.getD j (-1)).toNat m (by omega) (by omega) (by omega)]
      · rw [decide_eq_false c, Bool.false_and, Bool.false_and]
theorem dsc_step {ps : List Int} (hp : Par ps) (p : Nat) {j : Nat} (hj : j < ps.length) (h0 : 0 < j) : dsc ps p j = (j == p || dsc ps p (ps.getD j (-1)).toNat) := by
  have := hp j hj
  unfold dsc
  rw [upB, decide_eq_true (show 0 ≤ ps.getD j (-1) by omega), Bool.true_and, upB_fuel hp p j _ ((ps.getD j (-1)).toNat + 1) (by omega) (by omega) (by omega)]
theorem dsc_zero {ps : List Int} (hp : Par ps) (p : Nat) (h : 0 < ps.length) : dsc ps p 0 = (0 == p) := by
  have := hp 0 h
  unfold dsc
  rw [upB, decide_eq_false (show ¬ 0 ≤ ps.getD 0 (-1) by omega), Bool.false_and, Bool.or_false]
theorem dsc_self {ps : List Int} (p : Nat) : dsc ps p p = true := by unfold dsc; rw [upB, beq_self_eq_true]; rfl
theorem dsc_le {ps : List Int} (hp : Par ps) {p : Nat} : ∀ (n j : Nat), j < n → j < ps.length → dsc ps p j = true → p ≤ j := by
  intro n
  induction n with
  | zero => intro j h; omega
  | succ n ih =>
    intro j hn hj h
    rcases Nat.eq_zero_or_pos j with rfl | h0
    · rw [dsc_zero hp p hj] at h
      have : 0 = p := beq_iff_eq.1 h
      omega
    · rw [dsc_step hp p hj h0, Bool.or_eq_true, beq_iff_eq] at h
      have h1 := hp j hj
      rcases h with rfl | h
      · exact Nat.le_refl _
      · have := ih _ (by omega) (by omega) h
        omega
theorem dsc_last {ps : List Int} (hp : Par ps) {p j : Nat} (hj : j < ps.length) (h : j < p) : dsc ps p j = false := by
  cases c : dsc ps p j with
  | false => rfl
  | true => have := dsc_le hp (j + 1) j (by omega) hj c; omega
def sumTo (f : Nat → Int) : Nat → Int
  | 0 => 0
  | n + 1 => sumTo f n + f n
theorem sumTo_congr {f g : Nat → Int} : ∀ {n : Nat}, (∀ j, j < n → f j = g j) → sumTo f n = sumTo g n
  | 0, _ => rfl
  | n + 1, h => by rw [sumTo, sumTo, sumTo_congr (fun j hj => h j (by omega)), h n (by omega)]
theorem sumTo_le {f g : Nat → Int} : ∀ {n : Nat}, (∀ j, j < n → f j ≤ g j) → sumTo f n ≤ sumTo g n
  | 0, _ => Int.le_refl _
  | n + 1, h => by
    have := sumTo_le (f := f) (g := g) (n := n) (fun j hj => h j (by omega))
    have := h n (by omega)
    rw [sumTo, sumTo]; omega
theorem sumTo_nonneg {f : Nat → Int} : ∀ {n : Nat}, (∀ j, j < n → 0 ≤ f j) → 0 ≤ sumTo f n
  | 0, _ => Int.le_refl _
  | n + 1, h => by
    have := sumTo_nonneg (f := f) (n := n) (fun j hj => h j (by omega))
    have := h n (by omega)
    rw [sumTo]; omega
theorem sumTo_zero {f : Nat → Int} : ∀ {n : Nat}, (∀ j, j < n → f j = 0) → sumTo f n = 0
  | 0, _ => rfl
  | n + 1, h => by rw [sumTo, sumTo_zero (fun j hj => h j (by omega)), h n (by omega)]; rfl
theorem sumTo_mem {f : Nat → Int} {i : Nat} : ∀ {n : Nat}, (∀ j, j < n → 0 ≤ f j) → i < n → f i ≤ sumTo f n
  | 0, _, h => by omega
  | n + 1, h, hi => by
    rw [sumTo]
    have h1 := sumTo_nonneg (f := f) (n := n) (fun j hj => h j (by omega))
    have h2 := h n (by omega)
    rcases Nat.lt_or_ge i n with c | c
    · have := sumTo_mem (f := f) (i := i) (n := n) (fun j hj => h j (by omega)) c
      omega
    · have : i = n := by omega
      rw [this]; omega
/-- a sum over a row of which one entry has grown -/
theorem sumTo_one {f g : Nat → Int} {i : Nat} {v : Int} : ∀ {n : Nat}, i < n → (∀ j, j < n → f j = if j = i then g j + v else g j) → sumTo f n = sumTo g n + v
  | 0, h, _ => by omega
  | n + 1, h, hf => by
    rw [sumTo, sumTo]
    have hn := hf n (by omega)
    rcases Nat.lt_or_ge i n with c | c
    · rw [sumTo_one (n := n) c (fun j hj => hf j (by omega)), hn, if_neg (by omega)]; omega
    · have : i = n := by omega
      rw [hn, if_pos this.symm, sumTo_congr (n := n) (f := f) (g := g) (fun j hj => by rw [hf j (by omega), if_neg (by omega)])]; omega
/-- what the program does, from the last node on -/
def szL (ps : List Int) (c : Nat → Int) : Nat → List Int → List Int
  | 0, o => o
  | n + 1, o =>
    let o1 := o.set n (wrap64 (o.getD n 0 + c n))
    szL ps c n (if 0 < n then o1.set (ps.getD n (-1)).toNat (wrap64 (o1.getD (ps.getD n (-1)).toNat 0 + o1.getD n 0)) else o1)
theorem getD_set {l : List Int} {i j : Nat} {v : Int} (h : i < l.length) : (l.set i v).getD j 0 = if j = i then v else l.getD j 0 := by
  rw [List.getD_eq_getElem?_getD, List.getD_eq_getElem?_getD, List.getElem?_set]
  by_cases c : i = j
  · subst c; rw [if_pos rfl, if_pos h, if_pos rfl]; rfl
  · rw [if_neg c, if_neg (fun h => c h.symm)]
theorem szL_eq {ps : List Int} (hp : Par ps) (c : Nat → Int) (hc : ∀ j, 0 ≤ c j) : ∀ (n : Nat) (o : List Int), n ≤ ps.length → o.length = ps.length → (∀ j, j < n → 0 ≤ o.getD j 0) → sumTo (fun j => o.getD j 0 + c j) n ≤ 9223372036854775807 →
    ∀ p, (szL ps c n o).getD p 0 = if p < n then sumTo (fun j => if dsc ps p j = true then o.getD j 0 + c j else 0) n else o.getD p 0 := by
  intro n
  induction n with
  | zero => intro o _ _ _ _ p; rw [if_neg (by omega)]; rfl
  | succ n ih =>
    intro o hn ho h0 hs p
    rw [szL]
    rw [sumTo] at hs
    have hsum0 := sumTo_nonneg (f := fun j => o.getD j 0 + c j) (n := n) (fun j hj => by have := h0 j (by omega); have := hc j; omega)
    have hn0 := h0 n (by omega)
    have hcn := hc n
    have hv : wrap64 (o.getD n 0 + c n) = o.getD n 0 + c n := by unfold wrap64; omega
    rw [hv]
    have g1 : ∀ j, (o.set n (o.getD n 0 + c n)).getD j 0 = if j = n then o.getD n 0 + c n else o.getD j 0 := fun j => getD_set (by omega)
    by_cases c0 : 0 < n
    · rw [if_pos c0]
      have hpn := hp n (by omega)
      obtain ⟨q, hq⟩ : ∃ q : Nat, (ps.getD n (-1)).toNat = q := ⟨_, rfl⟩
      have hqn : q < n := by omega
      rw [hq]
      have g2 : (o.set n (o.getD n 0 + c n)).getD q 0 + (o.set n (o.getD n 0 + c n)).getD n 0 = o.getD q 0 + (o.getD n 0 + c n) := by
        rw [g1, g1, if_neg (by omega), if_pos rfl]
      rw [g2]
      have hq1 := sumTo_mem (f := fun j => o.getD j 0 + c j) (i := q) (n := n) (fun j hj => by have := h0 j (by omega); have := hc j; omega) hqn
      have hq0 := h0 q (by omega)
      have hcq := hc q
      have hw : wrap64 (o.getD q 0 + (o.getD n 0 + c n)) = o.getD q 0 + (o.getD n 0 + c n) := by unfold wrap64; omega
      rw [hw]
      have g3 : ∀ j, ((o.set n (o.getD n 0 + c n)).set q (o.getD q 0 + (o.getD n 0 + c n))).getD j 0 = if j = q then o.getD j 0 + (o.getD n 0 + c n) else if j = n then o.getD n 0 + c n else o.getD j 0 := by
        intro j
        rw [getD_set (by rw [List.length_set]; omega), g1]
        by_cases c1 : j = q
        · rw [if_pos c1, if_pos c1, c1]
        · rw [if_neg c1, if_neg c1]
      have hs' : sumTo (fun j => ((o.set n (o.getD n 0 + c n)).set q (o.getD q 0 + (o.getD n 0 + c n))).getD j 0 + c j) n = sumTo (fun j => o.getD j 0 + c j) n + (o.getD n 0 + c n) :=
        sumTo_one hqn (fun j hj => by
          rw [g3]
          by_cases c1 : j = q
          · rw [if_pos c1, if_pos c1]; omega
          · rw [if_neg c1, if_neg c1, if_neg (by omega)])
      rw [ih _ (by omega) (by simp [ho]) (fun j hj => by
        rw [g3]
        have := h0 j (by omega)
        by_cases c1 : j = q
        · rw [if_pos c1]; omega
        · rw [if_neg c1, if_neg (by omega)]; exact this) (by rw [hs']; omega)]
      by_cases cp : p < n
      · rw [if_pos cp, if_pos (by omega), sumTo]
        have hd : dsc ps p n = dsc ps p q := by
          rw [dsc_step hp p (by omega) c0, hq, show (n == p) = false by rw [beq_eq_false_iff_ne]; omega, Bool.false_or]
        rw [hd]
        by_cases c2 : dsc ps p q = true
        · rw [if_pos c2]
          exact sumTo_one hqn (fun j hj => by
            rw [g3]
            by_cases c1 : j = q
            · rw [if_pos c1, if_pos c1, c1, if_pos c2, if_pos c2]; omega
            · rw [if_neg c1, if_neg c1, if_neg (show ¬ j = n by omega)])
        · rw [if_neg c2, Int.add_zero]
          exact sumTo_congr (fun j hj => by
            rw [g3]
            by_cases c1 : j = q
            · rw [c1, if_neg c2, if_neg c2]
            · rw [if_neg c1, if_neg (show ¬ j = n by omega)])
      · rw [if_neg cp, g3, if_neg (by omega)]
        by_cases c1 : p = n
        · rw [if_pos c1, if_pos (by omega), sumTo, c1, if_pos (dsc_self n), sumTo_zero, Int.zero_add]
          intro j hj
          rw [dsc_last hp (by omega) hj, if_neg (by decide)]
        · rw [if_neg c1, if_neg (by omega)]
    · rw [if_neg c0]
      obtain rfl : n = 0 := by omega
      show (o.set 0 (o.getD 0 0 + c 0)).getD p 0 = _
      rw [g1]
      by_cases c1 : p = 0
      · rw [if_pos c1, if_pos (by omega), c1, sumTo, sumTo, if_pos (dsc_self 0), Int.zero_add]
      · rw [if_neg c1, if_neg (by omega)]
end Go.Proofs.YtijamgfpgdiigaaGreatDoor.G
end
section
namespace Go.Proofs.YtijamgfpgdiigaaGreatDoor.G
open Go.RowKit Go.Proofs.YtijamgfpgdiigaaGreatDoorW.PrintWords Go.Proofs.YtijamgfpgdiigaaGreatDoorW.PrintLast Go.Proofs.YtijamgfpgdiigaaGreatDoorW.PrintMore
set_option linter.unusedVariables false
set_option linter.unusedSimpArgs false
def ps (ns : List Nd) : List Int := ns.map (·.f1)
theorem ps_len (ns : List Nd) : (ps ns).length = ns.length := List.length_map ..
theorem ps_at (ns : List Nd) (i : Nat) (h : i < ns.length) : (ps ns).getD i (-1) = pa ns i := by
  unfold ps pa
  rw [rn_eq ns i h, List.getD_eq_getElem?_getD, List.getElem?_map, List.getElem?_eq_getElem h]; rfl
theorem par_of {ns : List Nd} (h : mayT ns = true) : Par (ps ns) := fun i hi => by
  rw [ps_len] at hi
  rw [ps_at ns i hi]
  have := mayT_pa h i hi
  omega
theorem sizesL_szL (ns : List Nd) (hp : Par (ps ns)) (c : Int → Int) : ∀ (n : Nat) (o : List Int), n ≤ ns.length → sizesL ns c n o = szL (ps ns) (fun j => c (j : Int)) n o
  | 0, o, _ => rfl
  | n + 1, o, h => by
    have hr : ∀ (l : List Int) (j : Nat), rd l (j : Int) = l.getD j 0 := fun l j => by show l.getD _ _ = _; rw [Int.toNat_natCast]
    rw [sizesL, szL]
    have hpa : (rn ns (n : Int)).f1 = (ps ns).getD n (-1) := (ps_at ns n (by omega)).symm
    simp only [hr]
    by_cases c0 : 0 < n
    · have hp1 := hp n (by rw [ps_len]; omega)
      have hz : (((ps ns).getD n (-1)).toNat : Int) = (ps ns).getD n (-1) := by omega
      rw [if_pos c0, if_pos c0, hpa]
      have hrp : ∀ l : List Int, rd l ((ps ns).getD n (-1)) = l.getD ((ps ns).getD n (-1)).toNat 0 := fun l => rfl
      rw [hrp]
      exact sizesL_szL ns hp c n _ (by omega)
    · rw [if_neg c0, if_neg c0]
      exact sizesL_szL ns hp c n _ (by omega)
theorem sumTo_const : ∀ (n : Nat), sumTo (fun _ => (1 : Int)) n = n
  | 0 => rfl
  | n + 1 => by rw [sumTo, sumTo_const n]; omega
theorem rep_zero (m j : Nat) : (List.replicate m (0 : Int)).getD j 0 = 0 := by
  rw [List.getD_eq_getElem?_getD, List.getElem?_replicate]
  split <;> rfl
theorem sizesP_gen {ns : List Nd} (h : mayT ns = true) (c : Int → Int) (hc : ∀ j : Nat, 0 ≤ c (j : Int)) (hs : sumTo (fun j => c (j : Int)) ns.length ≤ 9223372036854775807) (p : Nat) (hp : p < ns.length) : rd (sizesP ns c) (p : Int) = sumTo (fun j => if dsc (ps ns) p j = true then c (j : Int) else 0) ns.length := by
  have hpar := par_of h
  show (sizesP ns c).getD (p : Int).toNat 0 = _
  rw [Int.toNat_natCast]
  unfold sizesP
  rw [sizesL_szL ns hpar c _ _ (Nat.le_refl _)]
  have hz : ∀ j, (List.replicate ns.length (0 : Int)).getD j 0 + c (j : Int) = c (j : Int) := fun j => by rw [rep_zero]; omega
  have := szL_eq hpar (fun j => c (j : Int)) hc ns.length (List.replicate ns.length 0) (by rw [ps_len]; exact Nat.le_refl _) (by rw [ps_len, List.length_replicate]) (fun j _ => by rw [rep_zero]; exact Int.le_refl _)
    (by simp only [hz]; exact hs) p
  rw [this, if_pos hp]
  exact sumTo_congr (fun j _ => by rw [hz])
def one (p : Int) : Nd := ⟨0, p, [], (⟨#[49]⟩ : ByteArray)⟩
end Go.Proofs.YtijamgfpgdiigaaGreatDoor.G
end
section
namespace Go.Proofs.YtijamgfpgdiigaaGreatDoor.G
open Go.RowKit Go.Proofs.YtijamgfpgdiigaaGreatDoorW.PrintWords Go.Proofs.YtijamgfpgdiigaaGreatDoorW.PrintLast Go.Proofs.YtijamgfpgdiigaaGreatDoorW.PrintMore
set_option maxHeartbeats 8000000
set_option maxRecDepth 100000
attribute [local go_sem] max2_int min2_int max_two min_two max_three min_three max_four min_four   -- for this text's walks alone
set_option linter.unusedVariables false
set_option linter.unusedSimpArgs false

def sleuthref12_rooted.f (a0 : Int) : Option (Int × Int) := if a0 = 0 then (some (0, 0)) else (if a0 = 1 then (some (2, 0)) else (some (3, 0)))
theorem sleuthref12_rooted.calls (a0 : Int) (r1 : Int) (r2 : Int) (w : World) (h : sleuthref12_rooted.f a0 = some (r1, r2)) :
 Calls Tryz.prog 51 #[.int .i64 a0] w fun e w' => e = .returned (.agg #[.int .i64 r1, .int .i64 r2]) ∧ Below w.heap.size w w' := by
 have hu48 := Tryz.underlying48
 have HB := a_ (Below.refl w.heap.size w)
 have H := h; unfold sleuthref12_rooted.f at H
 clear h
 by_cases c2 : a0 = 0
 case pos =>
  rw [if_pos c2] at H
  have c2b0 : (a0 == 0) = true := beq_iff_eq.mpr c2
  have c2b1 : (a0 != 0) = false := bne_eq_false_iff_eq.mpr c2
  clear c2
  simp only [Option.some.injEq, Prod.mk.injEq] at H
  obtain ⟨rfl, rfl⟩ := H
  go_enter Tryz.func51, Tryz.ntmps51
  go_wp2_with (first | ((with_reducible refine gate_dst (N := 2) rfl ?_); refine boxE_ 2 #[.int .i64 0, .int .i64 0] 48 ?_; intro g0 hg w3 hbox hb; have B0 := a_ (hbox); have E0 := a_ ((gE_ hg : w.heap.size ≤ g0)); replace HB := a_ (below_step hB_ hb); clear hb hbox hg; obtain ⟨z0, z1, f0, f1⟩ := bx2_ B0.out))
  refine bodyPost_ret (results_cell_row rfl _ _ g0 48 #[.int .i64 0, .int .i64 0] (0, 0) _ rfl (bP_ (bP_ (hK_ B0.out))) Tryz.underlying48 rfl (by kernel_rfl)) rfl ?_
  exact ⟨hV_, hC_⟩
 rw [if_neg c2] at H
 have c2b0 : (a0 == 0) = false := beq_eq_false_iff_ne.mpr c2
 have c2b1 : (a0 != 0) = true := bne_iff_ne.mpr c2
 by_cases c5 : a0 = 1
 case neg =>
  rw [if_neg c5] at H
  have c5b0 : (a0 == 1) = false := beq_eq_false_iff_ne.mpr c5
  have c5b1 : (a0 != 1) = true := bne_iff_ne.mpr c5
  simp only [Option.some.injEq, Prod.mk.injEq] at H
  obtain ⟨rfl, rfl⟩ := H
  go_enter Tryz.func51, Tryz.ntmps51
  go_wp2_with (first | ((with_reducible refine gate_dst (N := 2) rfl ?_); refine boxE_ 2 #[.int .i64 0, .int .i64 0] 48 ?_; intro g0 hg w8 hbox hb; have B0 := a_ (hbox); have E0 := a_ ((gE_ hg : w.heap.size ≤ g0)); replace HB := a_ (below_step hB_ hb); clear hb hbox hg; obtain ⟨z2, z3, f2, f3⟩ := bx2_ B0.out))
  refine bodyPost_ret (results_cell_row rfl _ _ g0 48 #[.int .i64 3, .int .i64 0] (0, 0) _ rfl (bP_ (bP_ (hK_ B0.out))) Tryz.underlying48 rfl (by kernel_rfl)) rfl ?_
  exact ⟨hV_, hC_⟩

 rw [if_pos c5] at H
 have c5b0 : (a0 == 1) = true := beq_iff_eq.mpr c5
 have c5b1 : (a0 != 1) = false := bne_eq_false_iff_eq.mpr c5
 clear c5
 simp only [Option.some.injEq, Prod.mk.injEq] at H
 obtain ⟨rfl, rfl⟩ := H
 go_enter Tryz.func51, Tryz.ntmps51
 go_wp2_with (first | ((with_reducible refine gate_dst (N := 2) rfl ?_); refine boxE_ 2 #[.int .i64 0, .int .i64 0] 48 ?_; intro g0 hg w6 hbox hb; have B0 := a_ (hbox); have E0 := a_ ((gE_ hg : w.heap.size ≤ g0)); replace HB := a_ (below_step hB_ hb); clear hb hbox hg; obtain ⟨z4, z5, f4, f5⟩ := bx2_ B0.out))
 refine bodyPost_ret (results_cell_row rfl _ _ g0 48 #[.int .i64 2, .int .i64 0] (0, 0) _ rfl (bP_ (bP_ (hK_ B0.out))) Tryz.underlying48 rfl (by kernel_rfl)) rfl ?_
 exact ⟨hV_, hC_⟩
def sleuthref12_kids.l0 : Nat → List (S57) → Int → List Int → Int → Option (List Int)
 | 0, _, _, _, _ => none
 | k + 1, x0, x1, x5, x6 => if x6 < (x0.length : Int) then (if 0 ≤ x6 then (if ((rd_T57 x0 x6).f1) = x1 then (if x5.length < 17592186044416 then (sleuthref12_kids.l0 k x0 x1 (x5 ++ [x6]) (wrap64 (x6 + 1))) else (none)) else (sleuthref12_kids.l0 k x0 x1 x5 (wrap64 (x6 + 1)))) else (none)) else (some x5)
def sleuthref12_kids.f (k : Nat) (l0 : List (S57)) (a1 : Int) : Option (List Int) := sleuthref12_kids.l0 k l0 a1 ([] : List Int) 0
theorem sleuthref12_kids.calls (k : Nat) (A0 : Option Addr) (c0 : Nat) (l0 : List (S57)) (a1 : Int) (r : List Int) (w : World) (hr0 : Kd.C k57 w A0 l0.length l0) (hc0 : l0.length ≤ c0) (h : sleuthref12_kids.f k l0 a1 = some r) :
 Calls Tryz.prog 52 #[.slice A0 l0.length c0, .int .i64 a1] w fun e w' => ∃ v0_ : Value, e = .returned (v0_) ∧ Kd.R (Kd.int .i64) 3 w' w.heap.size (fun _ => True) v0_ r ∧ Below w.heap.size w w' := by
 have HR0 := a_ hr0
 have HC0 := a_ hc0
 clear hr0 hc0
 have HB := a_ (Below.refl w.heap.size w)
 have H : (sleuthref12_kids.l0 k l0 a1 ([] : List Int) 0) = some r := h
 clear h
 have H' := a_ H
 clear H
 go_enter Tryz.func52, Tryz.ntmps52
 go_wp2
 go_loopg [5, 6] k (fun kq v5 v6 w' => ∃ (x1 : List Int) (x0 : Int), v6 = .int .i64 x0 ∧ Aside0 (sleuthref12_kids.l0 kq l0 a1 x1 x0 = some r) ∧ Aside0 (kq ≤ k) ∧ Aside0 (Kd.R (Kd.int .i64) 3 w' w.heap.size (fun _ => True) v5 x1) ∧ Aside0 (Below w.heap.size w w'))
 case atStart => exact ⟨(([] : List Int)), (0), hW_, H', ⟨Nat.le_refl _⟩, ⟨by first | exact Kd.R_nil _ _ _ _ _ | exact Kd.N_nil _ _ _ _ _ | exact Kd.V_nil _ _ _ _ _ | exact Kd.Q_nil _ _ _ _ _ | exact Kd.S_nil _ _ _ _ _⟩, ⟨hC_⟩⟩
 case round =>
  clear H'
  try clear p2
  obtain ⟨x1, x0, rfl, HA, HK1, O0, HB⟩ := hrel
  cases gk with
  | zero => exact absurd HA.out (by simp [sleuthref12_kids.l0])
  | succ k1 =>
   have H := HA.out
   clear HA
   simp only [sleuthref12_kids.l0] at H
   by_cases c3 : x0 < (l0.length : Int)
   case neg =>
    rw [if_neg c3] at H
    have c3b0 : decide (x0 < (l0.length : Int)) = false := decide_eq_false c3
    clear c3
    obtain rfl := Option.some.inj H
    go_wp2
    go_ret
    exact ⟨_, hV_, hR_ O0.out, hC_⟩

   rw [if_pos c3] at H
   have c3b0 : decide (x0 < (l0.length : Int)) = true := decide_eq_true c3
   clear c3
   replace H := ifI_ H; obtain ⟨c4, H⟩ := H
   have c4b0 : decide (0 ≤ x0) = true := decide_eq_true c4
   clear c4
   by_cases c5 : ((rd_T57 l0 x0).f1) = a1
   case neg =>
    rw [if_neg c5] at H
    have c5b0 : (((rd_T57 l0 x0).f1) == a1) = false := beq_eq_false_iff_ne.mpr c5
    have c5b1 : (((rd_T57 l0 x0).f1) != a1) = true := bne_iff_ne.mpr c5
    have H' := a_ H
    clear H
    have p331 : 0 ≤ (x0 : Int) := of_decide_eq_true hA_
    have q331 : x0 < (l0.length : Int) := of_decide_eq_true hA_
    obtain ⟨d0, A331_2, c331_2, e331, h0, h1, h2, h3, hl331_2, hi331_2⟩ := at_T57 HR0.out x0 p331 q331
    cases e331
    replace h0 := cl_ HB.out h0
    replace h1 := cl_ HB.out h1
    replace h2 := cl_ HB.out h2
    replace h3 := cl_ HB.out h3
    have HR331_2 := a_ hi331_2
    have HC331_2 := a_ hl331_2
    clear hi331_2 hl331_2
    replace p331 := eq_true p331
    replace q331 := eq_true q331
    go_wp2
    go_roundg k1
    case measure => have := HK1.out; omega
    case rel => exact ⟨(x1), (wrap64 (x0 + 1)), hW_, H', ⟨by have := HK1.out; omega⟩, ⟨hR_ O0.out⟩, ⟨hC_⟩⟩
   rw [if_pos c5] at H
   have c5b0 : (((rd_T57 l0 x0).f1) == a1) = true := beq_iff_eq.mpr c5
   have c5b1 : (((rd_T57 l0 x0).f1) != a1) = false := bne_eq_false_iff_eq.mpr c5
   clear c5
   replace H := ifI_ H; obtain ⟨c6, H⟩ := H
   have LMc6 := a_ c6
   clear c6
   obtain ⟨y0, i0⟩ : ∃ y_ : List Int, y_ = (x1 ++ [x0]) := ⟨_, rfl⟩
   replace H : (sleuthref12_kids.l0 k1 l0 a1 y0 (wrap64 (x0 + 1))) = some r := by first | (rw [i0]; with_reducible exact H) | (have H2_ := (Option.bind_some _ _).symm.trans H; rw [i0]; with_reducible exact H2_) | (have H2_ := (Option.bind_some _ _).symm.trans H; with_reducible exact H2_) | with_reducible exact H | (rw [i0]; exact H) | exact H
   have Y0 := a_ i0
   clear i0
   have H' := a_ H
   clear H
   have p331 : 0 ≤ (x0 : Int) := of_decide_eq_true hA_
   have q331 : x0 < (l0.length : Int) := of_decide_eq_true hA_
   obtain ⟨d0, A331_2, c331_2, e331, h0, h1, h2, h3, hl331_2, hi331_2⟩ := at_T57 HR0.out x0 p331 q331
   cases e331
   replace h0 := cl_ HB.out h0
   replace h1 := cl_ HB.out h1
   replace h2 := cl_ HB.out h2
   replace h3 := cl_ HB.out h3
   have HR331_2 := a_ hi331_2
   have HC331_2 := a_ hl331_2
   clear hi331_2 hl331_2
   replace p331 := eq_true p331
   replace q331 := eq_true q331
   go_wp2_with (first | ((with_reducible refine gate_builtin (b := .append) (xs := #[.tmp 20, .tmp 22]) rfl ?_); at_builtin; refine Kd.R_append (Kd.int .i64) (w0 := w) w.heap.size rfl (.tmp 20) (.tmp 22) 44 3 (.int .i64 0) 8 rfl Tryz.underlying44 info3 rfl (by decide) (by omega) u5 x1 x0 [.int .i64 x0] (fun _ => True) (fun _ => False) rfl rfl ?aP (fun _ hk => hk.elim) ?aF ?aO ?aB ?aS ?aL ?_; (case aP => exact rfl); (case aB => exact hB_); (case aF => exact (fun _ _ => trivial)); (case aO => exact (hR_ O0.out)); (case aS => exact hS_); (case aL => have := LMc6.out; omega); intro v0 w7 ho hb hg hat; rw [← Y0.out] at ho; replace HB := a_ (hb); have P0 := a_ (ho); clear O0; clear ho hb hg hat))
   go_roundg k1
   case measure => have := HK1.out; omega
   case rel => exact ⟨(y0), (wrap64 (x0 + 1)), hW_, H', ⟨by have := HK1.out; omega⟩, ⟨hR_ P0.out⟩, ⟨hC_⟩⟩
set_option maxHeartbeats 8000000
set_option maxRecDepth 100000
attribute [local go_sem] max2_int min2_int max_two min_two max_three min_three max_four min_four   -- for this text's walks alone
set_option linter.unusedVariables false
set_option linter.unusedSimpArgs false

def sleuthref12_firstOf.l0 : Nat → List Int → List Int → Int → Int → Option (Int)
 | 0, _, _, _, _ => none
 | k + 1, x0, x1, x2, x7 => if x7 < (x0.length : Int) then (if 0 ≤ x7 then (if 0 ≤ (rd x0 x7) then (if (rd x0 x7) < (x1.length : Int) then (if (rd x1 (rd x0 x7)) = x2 then (some (rd x0 x7)) else (sleuthref12_firstOf.l0 k x0 x1 x2 (wrap64 (x7 + 1)))) else (none)) else (none)) else (none)) else (some (-1))
def sleuthref12_firstOf.f (k : Nat) (l0 : List Int) (l1 : List Int) (a2 : Int) : Option (Int) := sleuthref12_firstOf.l0 k l0 l1 a2 0
theorem sleuthref12_firstOf.calls (k : Nat) (A0 : Option Addr) (c0 : Nat) (l0 : List Int) (A1 : Option Addr) (c1 : Nat) (l1 : List Int) (a2 : Int) (r : Int) (w : World) (hr0 : Kd.C (Kd.int .i64) w A0 l0.length l0) (hc0 : l0.length ≤ c0) (hr1 : Kd.C (Kd.int .i64) w A1 l1.length l1) (hc1 : l1.length ≤ c1) (h : sleuthref12_firstOf.f k l0 l1 a2 = some r) :
 Calls Tryz.prog 53 #[.slice A0 l0.length c0, .slice A1 l1.length c1, .int .i64 a2] w fun e w' => e = .returned (.int .i64 r) ∧ Drawn0 w w' := by
 have HR0 := a_ hr0
 have HC0 := a_ hc0
 clear hr0 hc0
 have HR1 := a_ hr1
 have HC1 := a_ hc1
 clear hr1 hc1
 have H : (sleuthref12_firstOf.l0 k l0 l1 a2 0) = some r := h
 clear h
 have H' := a_ H
 clear H
 go_enter Tryz.func53, Tryz.ntmps53
 go_wp2
 go_loopg [7] k (fun kq v7 w' => ∃ (x0 : Int), v7 = .int .i64 x0 ∧ Aside0 (sleuthref12_firstOf.l0 kq l0 l1 a2 x0 = some r) ∧ Aside0 (kq ≤ k) ∧ Drawn0 w w')
 case atStart => exact ⟨(0), hW_, H', ⟨Nat.le_refl _⟩, by repeat (first | exact Drawn0.refl _ | apply Drawn0.step)⟩
 case round =>
  clear H'
  try clear c1
  try clear p2
  obtain ⟨x0, rfl, HA, HK1, ⟨m1, rfl⟩⟩ := hrel
  cases gk with
  | zero => exact absurd HA.out (by simp [sleuthref12_firstOf.l0])
  | succ k1 =>
   have H := HA.out
   clear HA
   simp only [sleuthref12_firstOf.l0] at H
   by_cases c4 : x0 < (l0.length : Int)
   case neg =>
    rw [if_neg c4] at H
    have c4b0 : decide (x0 < (l0.length : Int)) = false := decide_eq_false c4
    clear c4
    obtain rfl := Option.some.inj H
    go_wp2
    go_ret
    exact ⟨by first | rfl | (simp; done) | (simp [*]; done), by repeat (first | exact Drawn0.refl _ | apply Drawn0.step)⟩

   rw [if_pos c4] at H
   have c4b0 : decide (x0 < (l0.length : Int)) = true := decide_eq_true c4
   clear c4
   replace H := ifI_ H; obtain ⟨c5, H⟩ := H
   have c5b0 : decide (0 ≤ x0) = true := decide_eq_true c5
   clear c5
   replace H := ifI_ H; obtain ⟨c6, H⟩ := H
   have c6b0 : decide (0 ≤ (rd l0 x0)) = true := decide_eq_true c6
   clear c6
   replace H := ifI_ H; obtain ⟨c7, H⟩ := H
   have c7b0 : decide ((rd l0 x0) < (l1.length : Int)) = true := decide_eq_true c7
   clear c7
   by_cases c8 : (rd l1 (rd l0 x0)) = a2
   case neg =>
    rw [if_neg c8] at H
    have c8b0 : ((rd l1 (rd l0 x0)) == a2) = false := beq_eq_false_iff_ne.mpr c8
    have c8b1 : ((rd l1 (rd l0 x0)) != a2) = true := bne_iff_ne.mpr c8
    have H' := a_ H
    clear H
    have p335 : 0 ≤ (x0 : Int) := of_decide_eq_true hA_
    have q335 : x0 < (l0.length : Int) := of_decide_eq_true hA_
    obtain ⟨d0, e335, h0⟩ := Kd.at_int HR0.out x0 p335 q335
    cases e335
    replace p335 := eq_true p335
    replace q335 := eq_true q335
    have p336 : 0 ≤ ((rd l0 x0) : Int) := of_decide_eq_true hA_
    have q336 : (rd l0 x0) < (l1.length : Int) := of_decide_eq_true hA_
    obtain ⟨d1, e336, h1⟩ := Kd.at_int HR1.out (rd l0 x0) p336 q336
    cases e336
    replace p336 := eq_true p336
    replace q336 := eq_true q336
    go_wp2
    go_roundg k1
    case measure => have := HK1.out; omega
    case rel => exact ⟨(wrap64 (x0 + 1)), hW_, H', ⟨by have := HK1.out; omega⟩, by repeat (first | exact Drawn0.refl _ | apply Drawn0.step)⟩
   rw [if_pos c8] at H
   have c8b0 : ((rd l1 (rd l0 x0)) == a2) = true := beq_iff_eq.mpr c8
   have c8b1 : ((rd l1 (rd l0 x0)) != a2) = false := bne_eq_false_iff_eq.mpr c8
   clear c8
   obtain rfl := Option.some.inj H
   have p335 : 0 ≤ (x0 : Int) := of_decide_eq_true hA_
   have q335 : x0 < (l0.length : Int) := of_decide_eq_true hA_
   obtain ⟨d0, e335, h0⟩ := Kd.at_int HR0.out x0 p335 q335
   cases e335
   replace p335 := eq_true p335
   replace q335 := eq_true q335
   have p336 : 0 ≤ ((rd l0 x0) : Int) := of_decide_eq_true hA_
   have q336 : (rd l0 x0) < (l1.length : Int) := of_decide_eq_true hA_
   obtain ⟨d1, e336, h1⟩ := Kd.at_int HR1.out (rd l0 x0) p336 q336
   cases e336
   replace p336 := eq_true p336
   replace q336 := eq_true q336
   have p337 : 0 ≤ (x0 : Int) := of_decide_eq_true hA_
   have q337 : x0 < (l0.length : Int) := of_decide_eq_true hA_
   obtain ⟨d2, e337, h2⟩ := Kd.at_int HR0.out x0 p337 q337
   obtain rfl : d0 = d2 := (by injection e337)
   replace p337 := eq_true p337
   replace q337 := eq_true q337
   go_wp2
   go_ret
   exact ⟨by first | rfl | (simp; done) | (simp [*]; done), by repeat (first | exact Drawn0.refl _ | apply Drawn0.step)⟩
set_option maxHeartbeats 8000000
set_option maxRecDepth 100000
attribute [local go_sem] max2_int min2_int max_two min_two max_three min_three max_four min_four   -- for this text's walks alone
set_option linter.unusedVariables false
set_option linter.unusedSimpArgs false

def sleuthref12_verdict.l0 : Nat → List Int → Int → List Int → Int → Option (Int × Int)
 | 0, _, _, _, _ => none
 | k + 1, x1, x2, x7, x8 => if x8 < (x7.length : Int) then (if 0 ≤ x8 then (if 0 ≤ (rd x7 x8) then (if (rd x7 x8) < (x1.length : Int) then (if (rd x1 (rd x7 x8)) = 1 then (sleuthref12_verdict.l0 k x1 x2 x7 (wrap64 (x8 + 1))) else (some (3, 0))) else (none)) else (none)) else (none)) else (some (1, x2))
def sleuthref12_verdict.f (k : Nat) (l0 : List (S57)) (l1 : List Int) (a2 : Int) : Option (Int × Int) := (sleuthref12_kids.f k l0 a2).bind fun t339 => (sleuthref12_verdict.l0 k l1 a2 t339 0)
theorem sleuthref12_verdict.calls (k : Nat) (A0 : Option Addr) (c0 : Nat) (l0 : List (S57)) (A1 : Option Addr) (c1 : Nat) (l1 : List Int) (a2 : Int) (r1 : Int) (r2 : Int) (w : World) (hr0 : Kd.C k57 w A0 l0.length l0) (hc0 : l0.length ≤ c0) (hr1 : Kd.C (Kd.int .i64) w A1 l1.length l1) (hc1 : l1.length ≤ c1) (h : sleuthref12_verdict.f k l0 l1 a2 = some (r1, r2)) :
 Calls Tryz.prog 54 #[.slice A0 l0.length c0, .slice A1 l1.length c1, .int .i64 a2] w fun e w' => e = .returned (.agg #[.int .i64 r1, .int .i64 r2]) ∧ Below w.heap.size w w' := by
 have hu48 := Tryz.underlying48
 have HR0 := a_ hr0
 have HC0 := a_ hc0
 clear hr0 hc0
 have HR1 := a_ hr1
 have HC1 := a_ hc1
 clear hr1 hc1
 have HB := a_ (Below.refl w.heap.size w)
 have H := h; unfold sleuthref12_verdict.f at H
 clear h
 replace H := Option.bind_eq_some_iff.mp H
 obtain ⟨t0, A40, H⟩ := H
 try dsimp only at H
 have A4 := a_ A40
 clear A40
 have H' := a_ H
 clear H
 go_enter Tryz.func54, Tryz.ntmps54
 go_wp2_with (first | ((with_reducible refine gate_dst (N := 6) rfl ?_); refine boxE_ 6 #[.int .i64 0, .int .i64 0] 48 ?_; intro g0 hg w5 hbox hb; have B0 := a_ (hbox); have E0 := a_ ((gE_ hg : w.heap.size ≤ g0)); replace HB := a_ (below_step hB_ hb); clear hb hbox hg) | ((with_reducible refine gate_callee (f := 52) rfl ?_); refine goesL_ (some 11) rfl rfl Tryz.func52 (by kernel_rfl) rfl #[.slice A0 l0.length c0, .int .i64 a2] rfl hL_ ?_; (with_reducible refine (sleuthref12_kids.calls k _ _ l0 a2 t0 _ ?s1 ?s2 A4.out).mono ?_); (case s1 => exact cB_ HR0.out); (case s2 => exact HC0.out); rintro e w6 ⟨v0, rfl, ho0, hb⟩; refine ⟨_, rfl, ?_⟩; have P0 := a_ (Kd.R_lower ho0 (below_size hC_)); replace B0 := a_ (bB_ B0.out hb); replace HB := a_ (below_step hC_ hb); (try clear hb); (try clear hb2); (try clear hk); (try clear hi); (try clear ho0)))
 (try simp only [Act.put, List.setIfInBounds_toArray, List.set_cons_zero, List.set_cons_succ])
 go_loopg [8] k (fun kq v8 w' => ∃ (x0 : Int) (x1 : Int) (x2 : Int), v8 = .int .i64 x0 ∧ Aside0 (sleuthref12_verdict.l0 kq l1 a2 t0 x0 = some (r1, r2)) ∧ Aside0 (kq ≤ k) ∧ Aside0 (Kd.R (Kd.int .i64) 3 w' w.heap.size (fun _ => True) v0 t0) ∧ Aside0 (w'.heap[g0]? = some (.cells #[.int .i64 x1, .int .i64 x2] 48 (0, 0))) ∧ Aside0 (Below w.heap.size w w'))
 case atStart => exact ⟨(0), (0), (0), hW_, H', ⟨Nat.le_refl _⟩, ⟨hR_ P0.out⟩, ⟨(hK_ B0.out)⟩, ⟨hC_⟩⟩
 case round =>
  clear H'
  try clear c1
  try clear p2
  try clear c5
  obtain ⟨x0, x1, x2, rfl, HA, HK1, O0, B0, HB⟩ := hrel
  cases gk with
  | zero => exact absurd HA.out (by simp [sleuthref12_verdict.l0])
  | succ k1 =>
   have H := HA.out
   clear HA
   simp only [sleuthref12_verdict.l0] at H
   by_cases c7 : x0 < (t0.length : Int)
   case neg =>
    rw [if_neg c7] at H
    have c7b0 : decide (x0 < (t0.length : Int)) = false := decide_eq_false c7
    clear c7
    simp only [Option.some.injEq, Prod.mk.injEq] at H
    obtain ⟨rfl, rfl⟩ := H
    obtain ⟨a0, o0, e0⟩ := Kd.R_slice O0.out
    subst e0
    obtain ⟨z0, z1, f0, f1⟩ := bx2_ B0.out
    go_wp2
    refine bodyPost_ret (results_cell_row rfl _ _ g0 48 #[.int .i64 1, .int .i64 a2] (0, 0) _ rfl (bP_ (bP_ (hK_ B0.out))) Tryz.underlying48 rfl (by kernel_rfl)) rfl ?_
    exact ⟨hV_, hC_⟩

   rw [if_pos c7] at H
   have c7b0 : decide (x0 < (t0.length : Int)) = true := decide_eq_true c7
   clear c7
   replace H := ifI_ H; obtain ⟨c8, H⟩ := H
   have c8b0 : decide (0 ≤ x0) = true := decide_eq_true c8
   clear c8
   replace H := ifI_ H; obtain ⟨c9, H⟩ := H
   have c9b0 : decide (0 ≤ (rd t0 x0)) = true := decide_eq_true c9
   clear c9
   replace H := ifI_ H; obtain ⟨c10, H⟩ := H
   have c10b0 : decide ((rd t0 x0) < (l1.length : Int)) = true := decide_eq_true c10
   clear c10
   by_cases c11 : (rd l1 (rd t0 x0)) = 1
   case pos =>
    rw [if_pos c11] at H
    have c11b0 : ((rd l1 (rd t0 x0)) == 1) = true := beq_iff_eq.mpr c11
    have c11b1 : ((rd l1 (rd t0 x0)) != 1) = false := bne_eq_false_iff_eq.mpr c11
    clear c11
    have H' := a_ H
    clear H
    obtain ⟨a1, o1, e1⟩ := Kd.R_slice O0.out
    subst e1
    have p342 : 0 ≤ (x0 : Int) := of_decide_eq_true hA_
    have q342 : x0 < (t0.length : Int) := of_decide_eq_true hA_
    obtain ⟨d0, e342, h1⟩ := Kd.at_int (Kd.R_reads' O0.out).2.2 x0 p342 q342
    cases e342
    replace p342 := eq_true p342
    replace q342 := eq_true q342
    have p343 : 0 ≤ ((rd t0 x0) : Int) := of_decide_eq_true hA_
    have q343 : (rd t0 x0) < (l1.length : Int) := of_decide_eq_true hA_
    obtain ⟨d1, e343, h0⟩ := Kd.at_int HR1.out (rd t0 x0) p343 q343
    cases e343
    replace h0 := cl_ HB.out h0
    replace p343 := eq_true p343
    replace q343 := eq_true q343
    go_wp2
    go_roundg k1
    case measure => have := HK1.out; omega
    case rel => exact ⟨(wrap64 (x0 + 1)), (x1), (x2), hW_, H', ⟨by have := HK1.out; omega⟩, ⟨hR_ O0.out⟩, ⟨(hK_ B0.out)⟩, ⟨hC_⟩⟩
   rw [if_neg c11] at H
   have c11b0 : ((rd l1 (rd t0 x0)) == 1) = false := beq_eq_false_iff_ne.mpr c11
   have c11b1 : ((rd l1 (rd t0 x0)) != 1) = true := bne_iff_ne.mpr c11
   simp only [Option.some.injEq, Prod.mk.injEq] at H
   obtain ⟨rfl, rfl⟩ := H
   obtain ⟨a3, o2, e2⟩ := Kd.R_slice O0.out
   subst e2
   have p342 : 0 ≤ (x0 : Int) := of_decide_eq_true hA_
   have q342 : x0 < (t0.length : Int) := of_decide_eq_true hA_
   obtain ⟨d0, e342, h1⟩ := Kd.at_int (Kd.R_reads' O0.out).2.2 x0 p342 q342
   cases e342
   replace p342 := eq_true p342
   replace q342 := eq_true q342
   have p343 : 0 ≤ ((rd t0 x0) : Int) := of_decide_eq_true hA_
   have q343 : (rd t0 x0) < (l1.length : Int) := of_decide_eq_true hA_
   obtain ⟨d1, e343, h0⟩ := Kd.at_int HR1.out (rd t0 x0) p343 q343
   cases e343
   replace h0 := cl_ HB.out h0
   replace p343 := eq_true p343
   replace q343 := eq_true q343
   obtain ⟨z2, z3, f2, f3⟩ := bx2_ B0.out
   go_wp2
   refine bodyPost_ret (results_cell_row rfl _ _ g0 48 #[.int .i64 3, .int .i64 0] (0, 0) _ rfl (bP_ (bP_ (hK_ B0.out))) Tryz.underlying48 rfl (by kernel_rfl)) rfl ?_
   exact ⟨hV_, hC_⟩
set_option maxHeartbeats 8000000
set_option maxRecDepth 100000
attribute [local go_sem] max2_int min2_int max_two min_two max_three min_three max_four min_four   -- for this text's walks alone
set_option linter.unusedVariables false
set_option linter.unusedSimpArgs false

def sleuthref12_topDown.l0 : Nat → List (S57) → List Int → Int → Option (Int × Int)
 | 0, _, _, _ => none
 | k + 1, x0, x1, x5 => (sleuthref12_kids.f k x0 x5).bind fun t349 => ((sleuthref12_firstOf.f k t349 x1 2).bind fun t352 => (if t352 < 0 then ((sleuthref12_kids.f k x0 x5).bind fun t353 => ((sleuthref12_firstOf.f k t353 x1 0).bind fun t356 => (if t356 ≥ 0 then (some (0, t356)) else ((sleuthref12_verdict.f k x0 x1 x5).bind fun bt357 => (some (bt357.1, bt357.2)))))) else (sleuthref12_topDown.l0 k x0 x1 t352)))
def sleuthref12_topDown.f (k : Nat) (l0 : List (S57)) (l1 : List Int) : Option (Int × Int) := if 0 < (l1.length : Int) then (if (rd l1 0) = 2 then (sleuthref12_topDown.l0 k l0 l1 0) else ((sleuthref12_rooted.f (rd l1 0)).bind fun bt347 => (some (bt347.1, bt347.2)))) else (none)
theorem sleuthref12_topDown.calls (k : Nat) (A0 : Option Addr) (c0 : Nat) (l0 : List (S57)) (A1 : Option Addr) (c1 : Nat) (l1 : List Int) (r1 : Int) (r2 : Int) (w : World) (hr0 : Kd.C k57 w A0 l0.length l0) (hc0 : l0.length ≤ c0) (hr1 : Kd.C (Kd.int .i64) w A1 l1.length l1) (hc1 : l1.length ≤ c1) (h : sleuthref12_topDown.f k l0 l1 = some (r1, r2)) :
 Calls Tryz.prog 37 #[.slice A0 l0.length c0, .slice A1 l1.length c1] w fun e w' => e = .returned (.agg #[.int .i64 r1, .int .i64 r2]) ∧ Below w.heap.size w w' := by
 have hu48 := Tryz.underlying48
 have HR0 := a_ hr0
 have HC0 := a_ hc0
 clear hr0 hc0
 have HR1 := a_ hr1
 have HC1 := a_ hc1
 clear hr1 hc1
 have HB := a_ (Below.refl w.heap.size w)
 have H := h; unfold sleuthref12_topDown.f at H
 clear h
 replace H := ifI_ H; obtain ⟨c3, H⟩ := H
 have c3b0 : decide (0 < (l1.length : Int)) = true := decide_eq_true c3
 have c3b1 : decide (0 < l1.length) = true := decide_eq_true (by omega)
 clear c3
 by_cases c4 : (rd l1 0) = 2
 case neg =>
  rw [if_neg c4] at H
  have c4b0 : ((rd l1 0) == 2) = false := beq_eq_false_iff_ne.mpr c4
  have c4b1 : ((rd l1 0) != 2) = true := bne_iff_ne.mpr c4
  replace H := Option.bind_eq_some_iff.mp H
  obtain ⟨⟨t4, t5⟩, A260, H⟩ := H
  try dsimp only at H
  have A26 := a_ A260
  clear A260
  simp only [Option.some.injEq, Prod.mk.injEq] at H
  obtain ⟨rfl, rfl⟩ := H
  go_enter Tryz.func37, Tryz.ntmps37
  go_wp2_with (first | ((with_reducible refine gate_dst (N := 4) rfl ?_); refine boxE_ 4 #[.int .i64 0, .int .i64 0] 48 ?_; intro g0 hg w4 hbox hb; have B0 := a_ (hbox); have E0 := a_ ((gE_ hg : w.heap.size ≤ g0)); replace HB := a_ (below_step hB_ hb); clear hb hbox hg; have p345 : 0 ≤ (0 : Int) := (by omega); have q345 : 0 < (l1.length : Int) := of_decide_eq_true hA_; obtain ⟨d0, e345, h0⟩ := Kd.at_int HR1.out 0 p345 q345; cases e345; have qi345 : (0 < l1.length) = True := eq_true (by omega); (try rw [show ((0 : Int)).toNat = 0 from rfl] at h0); (try rw [Addr.add_zero'] at h0); replace h0 := cl_ HB.out h0; replace p345 := eq_true p345; replace q345 := eq_true q345; have p346 : 0 ≤ (0 : Int) := (by omega); have q346 : 0 < (l1.length : Int) := of_decide_eq_true hA_; obtain ⟨d1, e346, h1⟩ := Kd.at_int HR1.out 0 p346 q346; obtain rfl : d0 = d1 := (by injection e346); have qi346 : (0 < l1.length) = True := eq_true (by omega); (try rw [show ((0 : Int)).toNat = 0 from rfl] at h1); (try rw [Addr.add_zero'] at h1); replace h1 := cl_ HB.out h1; replace p346 := eq_true p346; replace q346 := eq_true q346) | ((with_reducible refine gate_callee (f := 51) rfl ?_); refine goesL_ (some 16) rfl rfl Tryz.func51 (by kernel_rfl) rfl #[.int .i64 (rd l1 0)] rfl hL_ ?_; (with_reducible refine (sleuthref12_rooted.calls (rd l1 0) t4 t5 _ A26.out).mono ?_); rintro e w6 ⟨rfl, hb⟩; refine ⟨_, rfl, ?_⟩; replace B0 := a_ (bB_ B0.out hb); replace HB := a_ (below_step hC_ hb); (try clear hb); (try clear hb2); (try clear hk); (try clear hi); obtain ⟨z0, z1, f0, f1⟩ := bx2_ B0.out))
  refine bodyPost_ret (results_cell_row rfl _ _ g0 48 #[.int .i64 t4, .int .i64 t5] (0, 0) _ rfl (bP_ (bP_ (hK_ B0.out))) Tryz.underlying48 rfl (by kernel_rfl)) rfl ?_
  exact ⟨hV_, hC_⟩
 rw [if_pos c4] at H
 have c4b0 : ((rd l1 0) == 2) = true := beq_iff_eq.mpr c4
 have c4b1 : ((rd l1 0) != 2) = false := bne_eq_false_iff_eq.mpr c4
 clear c4
 have H' := a_ H
 clear H
 go_enter Tryz.func37, Tryz.ntmps37
 go_wp2_with (first | ((with_reducible refine gate_dst (N := 4) rfl ?_); refine boxE_ 4 #[.int .i64 0, .int .i64 0] 48 ?_; intro g0 hg w5 hbox hb; have B0 := a_ (hbox); have E0 := a_ ((gE_ hg : w.heap.size ≤ g0)); replace HB := a_ (below_step hB_ hb); clear hb hbox hg; have p345 : 0 ≤ (0 : Int) := (by omega); have q345 : 0 < (l1.length : Int) := of_decide_eq_true hA_; obtain ⟨d0, e345, h0⟩ := Kd.at_int HR1.out 0 p345 q345; cases e345; have qi345 : (0 < l1.length) = True := eq_true (by omega); (try rw [show ((0 : Int)).toNat = 0 from rfl] at h0); (try rw [Addr.add_zero'] at h0); replace h0 := cl_ HB.out h0; replace p345 := eq_true p345; replace q345 := eq_true q345))
 (try simp only [Act.put, List.setIfInBounds_toArray, List.set_cons_zero, List.set_cons_succ])
 go_loopg [5] k (fun kq v5 w' => ∃ (x0 : Int), v5 = .int .i64 x0 ∧ Aside0 (sleuthref12_topDown.l0 kq l0 l1 x0 = some (r1, r2)) ∧ Aside0 (kq ≤ k) ∧ Aside0 (w'.heap[g0]? = some (.cells #[.int .i64 0, .int .i64 0] 48 (0, 0))) ∧ Aside0 (Below w.heap.size w w'))
 case atStart => exact ⟨(0), hW_, H', ⟨Nat.le_refl _⟩, ⟨(hK_ B0.out)⟩, ⟨hC_⟩⟩
 case round =>
  clear H'
  try clear c1
  try clear p2
  try clear c3
  try clear c3b0
  try clear c3b1
  try clear p3
  try clear q3
  try clear h2
  try clear qi3
  try clear c4
  try clear c4b0
  try clear c4b1
  try clear h0
  try clear p345
  try clear q345
  obtain ⟨x0, rfl, HA, HK1, B0, HB⟩ := hrel
  cases gk with
  | zero => exact absurd HA.out (by simp [sleuthref12_topDown.l0])
  | succ k1 =>
   have H := HA.out
   clear HA
   simp only [sleuthref12_topDown.l0] at H
   replace H := Option.bind_eq_some_iff.mp H
   obtain ⟨t0, A60, H⟩ := H
   try dsimp only at H
   have A6 := a_ A60
   clear A60
   replace H := Option.bind_eq_some_iff.mp H
   obtain ⟨t2, A70, H⟩ := H
   try dsimp only at H
   have A7 := a_ A70
   clear A70
   by_cases c8 : t2 < 0
   case neg =>
    rw [if_neg c8] at H
    have c8b0 : decide (t2 < 0) = false := decide_eq_false c8
    clear c8
    have H' := a_ H
    clear H
    go_wp2_with (first | ((with_reducible refine gate_callee (f := 52) rfl ?_); refine goesL_ (some 19) rfl rfl Tryz.func52 (by kernel_rfl) rfl #[.slice A0 l0.length c0, .int .i64 x0] rfl hL_ ?_; (with_reducible refine (sleuthref12_kids.calls k1 _ _ l0 x0 t0 _ ?s1 ?s2 A6.out).mono ?_); (case s1 => exact cB_ HR0.out); (case s2 => exact HC0.out); rintro e w7 ⟨v0, rfl, ho0, hb⟩; refine ⟨_, rfl, ?_⟩; have P0 := a_ (Kd.R_lower ho0 (below_size hC_)); replace B0 := a_ (bB_ B0.out hb); replace HB := a_ (below_step hC_ hb); (try clear hb); (try clear hb2); (try clear hk); (try clear hi); (try clear ho0); obtain ⟨a4, o4, e0⟩ := Kd.R_slice P0.out; subst e0) | ((with_reducible refine gate_callee (f := 53) rfl ?_); refine goesL_ _ rfl rfl Tryz.func53 (by kernel_rfl) rfl #[.slice a4 t0.length o4, .slice (some d0) l1.length c1, .int .i64 2] rfl hL_ ?_; (with_reducible refine (sleuthref12_firstOf.calls k1 _ _ t0 _ _ l1 2 t2 _ ?s1 ?s2 ?s3 ?s4 A7.out).mono ?_); (case s1 => exact cC_ (Kd.R_reads' P0.out).2.2); (case s2 => exact (Kd.R_reads' P0.out).2.1); (case s3 => exact cB_ HR1.out); (case s4 => exact HC1.out); rintro e w' ⟨rfl, ⟨nd, rfl⟩⟩; refine ⟨_, rfl, ?_⟩))
    go_roundg k1
    case measure => have := HK1.out; omega
    case rel => exact ⟨(t2), hW_, H', ⟨by have := HK1.out; omega⟩, ⟨(hK_ B0.out)⟩, ⟨hC_⟩⟩
   rw [if_pos c8] at H
   have c8b0 : decide (t2 < 0) = true := decide_eq_true c8
   clear c8
   replace H := Option.bind_eq_some_iff.mp H
   obtain ⟨t1, A90, H⟩ := H
   try dsimp only at H
   have A9 := a_ A90
   clear A90
   replace H := Option.bind_eq_some_iff.mp H
   obtain ⟨t3, A100, H⟩ := H
   try dsimp only at H
   have A10 := a_ A100
   clear A100
   by_cases c11 : t3 ≥ 0
   case pos =>
    rw [if_pos c11] at H
    have c11b0 : decide (0 ≤ t3) = true := decide_eq_true c11
    clear c11
    simp only [Option.some.injEq, Prod.mk.injEq] at H
    obtain ⟨rfl, rfl⟩ := H
    go_wp2_with (first | ((with_reducible refine gate_callee (f := 52) rfl ?_); refine goesL_ (some 19) rfl rfl Tryz.func52 (by kernel_rfl) rfl #[.slice A0 l0.length c0, .int .i64 x0] rfl hL_ ?_; (with_reducible refine (sleuthref12_kids.calls k1 _ _ l0 x0 t0 _ ?s1 ?s2 A6.out).mono ?_); (case s1 => exact cB_ HR0.out); (case s2 => exact HC0.out); rintro e w2 ⟨v0, rfl, ho0, hb⟩; refine ⟨_, rfl, ?_⟩; have P0 := a_ (Kd.R_lower ho0 (below_size hC_)); replace B0 := a_ (bB_ B0.out hb); replace HB := a_ (below_step hC_ hb); (try clear hb); (try clear hb2); (try clear hk); (try clear hi); (try clear ho0); obtain ⟨a0, o0, e1⟩ := Kd.R_slice P0.out; subst e1) | ((with_reducible refine gate_callee (f := 53) rfl ?_); refine goesL_ _ rfl rfl Tryz.func53 (by kernel_rfl) rfl #[.slice a0 t0.length o0, .slice (some d0) l1.length c1, .int .i64 2] rfl hL_ ?_; (with_reducible refine (sleuthref12_firstOf.calls k1 _ _ t0 _ _ l1 2 t2 _ ?s1 ?s2 ?s3 ?s4 A7.out).mono ?_); (case s1 => exact cC_ (Kd.R_reads' P0.out).2.2); (case s2 => exact (Kd.R_reads' P0.out).2.1); (case s3 => exact cB_ HR1.out); (case s4 => exact HC1.out); rintro e w' ⟨rfl, ⟨nd, rfl⟩⟩; refine ⟨_, rfl, ?_⟩; (try (rw [drewN_self w2]; generalize hq_ : World.drewN w2 _ = w2; replace P0 : Aside0 (Kd.R (Kd.int .i64) 3 w2 w.heap.size (fun _ => True) (.slice a0 t0.length o0) t0) := ⟨by rw [← hq_]; exact (hR_ P0.out)⟩; replace B0 : Aside0 (w2.heap[g0]? = some (.cells #[.int .i64 0, .int .i64 0] 48 (0, 0))) := ⟨by rw [← hq_]; exact (hK_ B0.out)⟩; replace HB : Aside0 (Below w.heap.size w w2) := ⟨by rw [← hq_]; exact hC_⟩; clear hq_; (try have hcu0_0 := bc0_ B0.out); (try have hfu0_0 := blk_frozen B0.out 0); (try have hcu0_1 := bc1_ B0.out); (try have hfu0_1 := blk_frozen B0.out 1)))) | ((with_reducible refine gate_callee (f := 52) rfl ?_); refine goesL_ (some 28) rfl rfl Tryz.func52 (by kernel_rfl) rfl #[.slice A0 l0.length c0, .int .i64 x0] rfl hL_ ?_; (with_reducible refine (sleuthref12_kids.calls k1 _ _ l0 x0 t1 _ ?s1 ?s2 A9.out).mono ?_); (case s1 => exact cB_ HR0.out); (case s2 => exact HC0.out); rintro e w0 ⟨v1, rfl, ho0, hb⟩; refine ⟨_, rfl, ?_⟩; have P1 := a_ (Kd.R_lower (Kd.R_new' ho0 (Kd.R_lt (hR_ P0.out))) (below_size hC_)); replace P0 := a_ (Kd.R_elder' (hR_ P0.out) (Kd.R_base ho0) hb); replace B0 := a_ (bB_ B0.out hb); replace HB := a_ (below_step hC_ hb); (try clear hb); (try clear hb2); (try clear hk); (try clear hi); (try clear ho0); obtain ⟨a2, o2, e2⟩ := Kd.R_slice P1.out; subst e2) | ((with_reducible refine gate_callee (f := 53) rfl ?_); refine goesL_ _ rfl rfl Tryz.func53 (by kernel_rfl) rfl #[.slice a2 t1.length o2, .slice (some d0) l1.length c1, .int .i64 0] rfl hL_ ?_; (with_reducible refine (sleuthref12_firstOf.calls k1 _ _ t1 _ _ l1 0 t3 _ ?s1 ?s2 ?s3 ?s4 A10.out).mono ?_); (case s1 => exact cC_ (Kd.R_reads' P1.out).2.2); (case s2 => exact (Kd.R_reads' P1.out).2.1); (case s3 => exact cB_ HR1.out); (case s4 => exact HC1.out); rintro e w' ⟨rfl, ⟨nd, rfl⟩⟩; refine ⟨_, rfl, ?_⟩; (try (rw [drewN_self w0]; generalize hq_ : World.drewN w0 _ = w0; replace P0 : Aside0 (Kd.R (Kd.int .i64) 3 w0 w.heap.size (fun k_ => some k_ ≠ (.slice a2 t1.length o2 : Value).ownBlock) (.slice a0 t0.length o0) t0) := ⟨by rw [← hq_]; exact (by (with_reducible repeat (first | apply Kd.R_alloc | apply Kd.R_drewN | apply Kd.R_drew)); exact Kd.R_mono P0.out (fun _ hk => hk.2))⟩; replace P1 : Aside0 (Kd.R (Kd.int .i64) 3 w0 w.heap.size (fun k_ => some k_ ≠ (.slice a0 t0.length o0 : Value).ownBlock) (.slice a2 t1.length o2) t1) := ⟨by rw [← hq_]; exact (by (with_reducible repeat (first | apply Kd.R_alloc | apply Kd.R_drewN | apply Kd.R_drew)); exact Kd.R_mono P1.out (fun _ hk => hk.2))⟩; replace B0 : Aside0 (w0.heap[g0]? = some (.cells #[.int .i64 0, .int .i64 0] 48 (0, 0))) := ⟨by rw [← hq_]; exact (hK_ B0.out)⟩; replace HB : Aside0 (Below w.heap.size w w0) := ⟨by rw [← hq_]; exact hC_⟩; clear hq_; (try have hcu0_0 := bc0_ B0.out); (try have hfu0_0 := blk_frozen B0.out 0); (try have hcu0_1 := bc1_ B0.out); (try have hfu0_1 := blk_frozen B0.out 1))); obtain ⟨z2, z3, f2, f3⟩ := bx2_ B0.out))
    refine bodyPost_ret (results_cell_row rfl _ _ g0 48 #[.int .i64 0, .int .i64 t3] (0, 0) _ rfl (bP_ (bP_ (hK_ B0.out))) Tryz.underlying48 rfl (by kernel_rfl)) rfl ?_
    exact ⟨hV_, hC_⟩
   rw [if_neg c11] at H
   have c11b0 : decide (0 ≤ t3) = false := decide_eq_false c11
   clear c11
   replace H := Option.bind_eq_some_iff.mp H
   obtain ⟨⟨t6, t7⟩, A170, H⟩ := H
   try dsimp only at H
   have A17 := a_ A170
   clear A170
   simp only [Option.some.injEq, Prod.mk.injEq] at H
   obtain ⟨rfl, rfl⟩ := H
   go_wp2_with (first | ((with_reducible refine gate_callee (f := 52) rfl ?_); refine goesL_ (some 19) rfl rfl Tryz.func52 (by kernel_rfl) rfl #[.slice A0 l0.length c0, .int .i64 x0] rfl hL_ ?_; (with_reducible refine (sleuthref12_kids.calls k1 _ _ l0 x0 t0 _ ?s1 ?s2 A6.out).mono ?_); (case s1 => exact cB_ HR0.out); (case s2 => exact HC0.out); rintro e w3 ⟨v0, rfl, ho0, hb⟩; refine ⟨_, rfl, ?_⟩; have P0 := a_ (Kd.R_lower ho0 (below_size hC_)); replace B0 := a_ (bB_ B0.out hb); replace HB := a_ (below_step hC_ hb); (try clear hb); (try clear hb2); (try clear hk); (try clear hi); (try clear ho0); obtain ⟨a1, o1, e3⟩ := Kd.R_slice P0.out; subst e3) | ((with_reducible refine gate_callee (f := 53) rfl ?_); refine goesL_ _ rfl rfl Tryz.func53 (by kernel_rfl) rfl #[.slice a1 t0.length o1, .slice (some d0) l1.length c1, .int .i64 2] rfl hL_ ?_; (with_reducible refine (sleuthref12_firstOf.calls k1 _ _ t0 _ _ l1 2 t2 _ ?s1 ?s2 ?s3 ?s4 A7.out).mono ?_); (case s1 => exact cC_ (Kd.R_reads' P0.out).2.2); (case s2 => exact (Kd.R_reads' P0.out).2.1); (case s3 => exact cB_ HR1.out); (case s4 => exact HC1.out); rintro e w' ⟨rfl, ⟨nd, rfl⟩⟩; refine ⟨_, rfl, ?_⟩; (try (rw [drewN_self w3]; generalize hq_ : World.drewN w3 _ = w3; replace P0 : Aside0 (Kd.R (Kd.int .i64) 3 w3 w.heap.size (fun _ => True) (.slice a1 t0.length o1) t0) := ⟨by rw [← hq_]; exact (hR_ P0.out)⟩; replace B0 : Aside0 (w3.heap[g0]? = some (.cells #[.int .i64 0, .int .i64 0] 48 (0, 0))) := ⟨by rw [← hq_]; exact (hK_ B0.out)⟩; replace HB : Aside0 (Below w.heap.size w w3) := ⟨by rw [← hq_]; exact hC_⟩; clear hq_; (try have hcu0_0 := bc0_ B0.out); (try have hfu0_0 := blk_frozen B0.out 0); (try have hcu0_1 := bc1_ B0.out); (try have hfu0_1 := blk_frozen B0.out 1)))) | ((with_reducible refine gate_callee (f := 52) rfl ?_); refine goesL_ (some 28) rfl rfl Tryz.func52 (by kernel_rfl) rfl #[.slice A0 l0.length c0, .int .i64 x0] rfl hL_ ?_; (with_reducible refine (sleuthref12_kids.calls k1 _ _ l0 x0 t1 _ ?s1 ?s2 A9.out).mono ?_); (case s1 => exact cB_ HR0.out); (case s2 => exact HC0.out); rintro e w1 ⟨v1, rfl, ho0, hb⟩; refine ⟨_, rfl, ?_⟩; have P1 := a_ (Kd.R_lower (Kd.R_new' ho0 (Kd.R_lt (hR_ P0.out))) (below_size hC_)); replace P0 := a_ (Kd.R_elder' (hR_ P0.out) (Kd.R_base ho0) hb); replace B0 := a_ (bB_ B0.out hb); replace HB := a_ (below_step hC_ hb); (try clear hb); (try clear hb2); (try clear hk); (try clear hi); (try clear ho0); obtain ⟨a3, o3, e4⟩ := Kd.R_slice P1.out; subst e4) | ((with_reducible refine gate_callee (f := 53) rfl ?_); refine goesL_ _ rfl rfl Tryz.func53 (by kernel_rfl) rfl #[.slice a3 t1.length o3, .slice (some d0) l1.length c1, .int .i64 0] rfl hL_ ?_; (with_reducible refine (sleuthref12_firstOf.calls k1 _ _ t1 _ _ l1 0 t3 _ ?s1 ?s2 ?s3 ?s4 A10.out).mono ?_); (case s1 => exact cC_ (Kd.R_reads' P1.out).2.2); (case s2 => exact (Kd.R_reads' P1.out).2.1); (case s3 => exact cB_ HR1.out); (case s4 => exact HC1.out); rintro e w' ⟨rfl, ⟨nd, rfl⟩⟩; refine ⟨_, rfl, ?_⟩; (try (rw [drewN_self w1]; generalize hq_ : World.drewN w1 _ = w1; replace P0 : Aside0 (Kd.R (Kd.int .i64) 3 w1 w.heap.size (fun k_ => some k_ ≠ (.slice a3 t1.length o3 : Value).ownBlock) (.slice a1 t0.length o1) t0) := ⟨by rw [← hq_]; exact (by (with_reducible repeat (first | apply Kd.R_alloc | apply Kd.R_drewN | apply Kd.R_drew)); exact Kd.R_mono P0.out (fun _ hk => hk.2))⟩; replace P1 : Aside0 (Kd.R (Kd.int .i64) 3 w1 w.heap.size (fun k_ => some k_ ≠ (.slice a1 t0.length o1 : Value).ownBlock) (.slice a3 t1.length o3) t1) := ⟨by rw [← hq_]; exact (by (with_reducible repeat (first | apply Kd.R_alloc | apply Kd.R_drewN | apply Kd.R_drew)); exact Kd.R_mono P1.out (fun _ hk => hk.2))⟩; replace B0 : Aside0 (w1.heap[g0]? = some (.cells #[.int .i64 0, .int .i64 0] 48 (0, 0))) := ⟨by rw [← hq_]; exact (hK_ B0.out)⟩; replace HB : Aside0 (Below w.heap.size w w1) := ⟨by rw [← hq_]; exact hC_⟩; clear hq_; (try have hcu0_0 := bc0_ B0.out); (try have hfu0_0 := blk_frozen B0.out 0); (try have hcu0_1 := bc1_ B0.out); (try have hfu0_1 := blk_frozen B0.out 1)))) | ((with_reducible refine gate_callee (f := 54) rfl ?_); refine goesL_ (some 38) rfl rfl Tryz.func54 (by kernel_rfl) rfl #[.slice A0 l0.length c0, .slice (some d0) l1.length c1, .int .i64 x0] rfl hL_ ?_; (with_reducible refine (sleuthref12_verdict.calls k1 _ _ l0 _ _ l1 x0 t6 t7 _ ?s1 ?s2 ?s3 ?s4 A17.out).mono ?_); (case s1 => exact cB_ HR0.out); (case s2 => exact HC0.out); (case s3 => exact cB_ HR1.out); (case s4 => exact HC1.out); rintro e w8 ⟨rfl, hb⟩; refine ⟨_, rfl, ?_⟩; replace P0 := a_ (Kd.R_below (hR_ P0.out) hb); replace P1 := a_ (Kd.R_below (hR_ P1.out) hb); replace B0 := a_ (bB_ B0.out hb); replace HB := a_ (below_step hC_ hb); (try clear hb); (try clear hb2); (try clear hk); (try clear hi); obtain ⟨z4, z5, f4, f5⟩ := bx2_ B0.out))
   refine bodyPost_ret (results_cell_row rfl _ _ g0 48 #[.int .i64 t6, .int .i64 t7] (0, 0) _ rfl (bP_ (bP_ (hK_ B0.out))) Tryz.underlying48 rfl (by kernel_rfl)) rfl ?_
   exact ⟨hV_, hC_⟩
end Go.Proofs.YtijamgfpgdiigaaGreatDoor.G
end
