/- Parts of this proof, one behind the other: G21, G22, G24, HalfVals, HalfMore, TreeMath, TSizes, NextRef, TSess, G2, G25, G27, G28, G15. -/
import Derived.Test.YtbnljapgnfmmoaaDoorG0
import Derived.Test.YtbnljapgnfmmoaaDoorU7
import Derived.Test.YtbnljapgnfmmoaaDoorU6
section
-- Laid by the session's own driver gp.py over the kit's printer. Not trusted: Lean checks it.
namespace Go.Proofs.YtbnljapgnfmmoaaDoor.G
open Go.RowKit Go.Proofs.YtbnljapgnfmmoaaDoorW.PrintWords Go.Proofs.YtbnljapgnfmmoaaDoorW.PrintLast Go.Proofs.YtbnljapgnfmmoaaDoorW.PrintMore
attribute [local go_sem] max2_int min2_int max_two min_two max_three min_three max_four min_four   -- for this text's walks alone
set_option linter.unusedVariables false
set_option linter.unusedSimpArgs false

/-! ### half_doubts: function 30 -/
def half_doubts.l0 : Nat → List (S41) → List Int → Int → List Bool → Int → Option (List Bool)
  | 0, _, _, _, _, _ => none
  | k + 1, x0, x1, x2, x7, x8 => if x8 < (x0.length : Int) then (if 0 ≤ x8 then (if ((rd_T41 x0 x8).f1) = x2 then (if x8 < (x1.length : Int) then (if x8 < (x7.length : Int) then (half_doubts.l0 k x0 x1 x2 (x7.set (x8 : Int).toNat ((rd x1 x8) != 1)) (wrap64 (x8 + 1))) else (none)) else (none)) else (if 0 ≤ ((rd_T41 x0 x8).f1) then (if ((rd_T41 x0 x8).f1) < (x7.length : Int) then (if rdOf false x7 ((rd_T41 x0 x8).f1) = true then (if x8 < (x1.length : Int) then (if x8 < (x7.length : Int) then (half_doubts.l0 k x0 x1 x2 (x7.set (x8 : Int).toNat ((rd x1 x8) != 1)) (wrap64 (x8 + 1))) else (none)) else (none)) else (if x8 < (x7.length : Int) then (half_doubts.l0 k x0 x1 x2 (x7.set (x8 : Int).toNat false) (wrap64 (x8 + 1))) else (none))) else (none)) else (none))) else (none)) else (some x7)
def half_doubts.f (k : Nat) (l0 : List (S41)) (l1 : List Int) (a2 : Int) : Option (List Bool) := if 0 ≤ (l0.length : Int) then (if ((l0.length : Int) : Int).toNat ≤ 281474976710656 then (half_doubts.l0 k l0 l1 a2 (List.replicate ((l0.length : Int) : Int).toNat false) (wrap64 (a2 + 1))) else (none)) else (none)
theorem half_doubts.mono_l : ∀ k, (∀ y0 y1 y2 y3 y4, LeO (half_doubts.l0 k y0 y1 y2 y3 y4) (half_doubts.l0 (k + 1) y0 y1 y2 y3 y4))
  | 0 => fun _ _ _ _ _ r h => by simp [half_doubts.l0] at h
  | k + 1 => by
    have ih0 := half_doubts.mono_l k
    · intro y0 y1 y2 y3 y4
      unfold half_doubts.l0
      repeat' first
      | (with_reducible exact ih0 _ _ _ _ _)
      | (with_reducible exact LeO.refl _)
      | (with_reducible exact LeO.none _)
      | (with_reducible refine LeO.ite ?_ ?_)
      | (with_reducible refine LeO.bind ?_ (fun _ => ?_))
      | exact ih0 _ _ _ _ _
      | exact LeO.none _
      | refine LeO.ite ?_ ?_
      | refine LeO.bind ?_ (fun _ => ?_)
theorem half_doubts.mono : ∀ a0 a1 a2 k, LeO (half_doubts.f k a0 a1 a2) (half_doubts.f (k + 1) a0 a1 a2) := by
  intro a0 a1 a2 k
  have ih0 := half_doubts.mono_l k
  unfold half_doubts.f
  repeat' first
      | (with_reducible exact ih0 _ _ _ _ _)
      | (with_reducible exact LeO.refl _)
      | (with_reducible exact LeO.none _)
      | (with_reducible refine LeO.ite ?_ ?_)
      | (with_reducible refine LeO.bind ?_ (fun _ => ?_))
      | exact ih0 _ _ _ _ _
      | exact LeO.none _
      | refine LeO.ite ?_ ?_
      | refine LeO.bind ?_ (fun _ => ?_)
set_option maxHeartbeats 8000000 in
set_option maxRecDepth 100000 in
theorem half_doubts.calls (k : Nat) (A0 : Option Addr) (c0 : Nat) (l0 : List (S41)) (A1 : Option Addr) (c1 : Nat) (l1 : List Int) (a2 : Int) (r : List Bool) (w : World) (hr0 : Kd.C k41 w A0 l0.length l0) (hc0 : l0.length ≤ c0) (hr1 : Kd.C (Kd.int .i64) w A1 l1.length l1) (hc1 : l1.length ≤ c1) (h : half_doubts.f k l0 l1 a2 = some r) :
    Calls Tryd.prog 30 #[.slice A0 l0.length c0, .slice A1 l1.length c1, .int .i64 a2] w fun e w' => ∃ v0_ : Value, e = .returned (v0_) ∧ Kd.R Kd.bool 4 w' w.heap.size (fun _ => True) v0_ r ∧ Below w.heap.size w w' := by
  have HR0 := Aside0.mk hr0
  have HC0 := Aside0.mk hc0
  clear hr0 hc0
  have HR1 := Aside0.mk hr1
  have HC1 := Aside0.mk hc1
  clear hr1 hc1
  have HB := Aside0.mk (Below.refl w.heap.size w)
  have H : (if 0 ≤ (l0.length : Int) then (if ((l0.length : Int) : Int).toNat ≤ 281474976710656 then (half_doubts.l0 k l0 l1 a2 (List.replicate ((l0.length : Int) : Int).toNat false) (wrap64 (a2 + 1))) else (none)) else (none)) = some r := h
  clear h
  replace H := ifI_ H; obtain ⟨c4, H⟩ := H
  have c4b0 := eq_true c4
  have c4b1 : decide (0 ≤ (l0.length : Int)) = true := decide_eq_true c4
  clear c4
  replace H := ifI_ H; obtain ⟨c5, H⟩ := H
  have c5b0 := eq_true c5
  have c5b1 : decide (((l0.length : Int) : Int).toNat ≤ 281474976710656) = true := decide_eq_true c5
  clear c5
  obtain ⟨y160, hy160⟩ : ∃ y_ : List Bool, y_ = (List.replicate ((l0.length : Int) : Int).toNat false) := ⟨_, rfl⟩
  replace H : (half_doubts.l0 k l0 l1 a2 y160 (wrap64 (a2 + 1))) = some r := by first | (rw [hy160]; with_reducible exact H) | (have H2_ := (Option.bind_some _ _).symm.trans H; rw [hy160]; with_reducible exact H2_) | (have H2_ := (Option.bind_some _ _).symm.trans H; with_reducible exact H2_) | with_reducible exact H | (rw [hy160]; exact H) | exact H
  have Ny160 := Aside0.mk hy160
  clear hy160
  have H' := Aside0.mk H
  clear H
  go_enter Tryd.func30, Tryd.ntmps30
  go_wp2_with (first | ((with_reducible refine gate_dst (N := 12) rfl ?_); refine Kd.R_make Kd.bool _ 4 rfl (N := 12) rfl 65 _ _ rfl (l0.length : Int) rfl rfl Tryd.underlying65 (.bool false) 1 info4 rfl (by decide) (by omega) false (ok := fun _ => True) (okp := fun _ => True) rfl (fun _ hk => hk) trivial (of_decide_eq_true hA_) (Nat.le_trans (Nat.mul_le_mul_right _ (of_decide_eq_true hA_ : (l0.length : Int).toNat ≤ 281474976710656)) (by omega)) (Below.refl _ _) (Nat.le_refl _) ?_; intro v161 w6 ho7 hb hg_ hnew_; clear hg_ hnew_; (first | rw [← Ny160.out] at ho7 | (simp only [Int.reduceToNat] at ho7; rw [← Ny160.out] at ho7)); have n0_ := Aside0.mk (Kd.R_lower ho7 hS_); have n1_ := Aside0.mk (below_step hB_ hb); clear HB; have HO162 := n0_; have HB := n1_; clear n0_ n1_; clear hb ho7))
  go_loopg [8] k (fun kq v8 w' => ∃ (x7_1 : List Bool) (x8_1 : Int), v8 = .int .i64 x8_1 ∧ Aside0 (half_doubts.l0 kq l0 l1 a2 x7_1 x8_1 = some r) ∧ Aside0 (kq ≤ k) ∧ Aside0 (Kd.R Kd.bool 4 w' w.heap.size (fun _ => True) v161 x7_1) ∧ Aside0 (Below w.heap.size w w'))
  case atStart => exact ⟨(y160), (wrap64 (a2 + 1)), hW_, H', ⟨Nat.le_refl _⟩, ⟨hR_ HO162.out⟩, ⟨hC_⟩⟩
  case round =>
    clear H'
    try clear c1
    try clear p2
    try clear c3
    try clear c4
    try clear c4b0
    try clear c4b1
    try clear c5
    try clear c5b0
    try clear c5b1
    try clear p6
    obtain ⟨x7_1, x8_1, rfl, HA, HK1, HO_7, HB⟩ := hrel
    cases gk with
    | zero => exact absurd HA.out (by simp [half_doubts.l0])
    | succ k1 =>
      have H := HA.out
      clear HA
      simp only [half_doubts.l0] at H
      by_cases c8 : x8_1 < (l0.length : Int)
      case neg =>
        rw [if_neg c8] at H
        have c8b0 : decide (x8_1 < (l0.length : Int)) = false := decide_eq_false c8
        clear c8
        obtain rfl := Option.some.inj H
        go_wp2
        go_ret
        exact ⟨_, hV_, hR_ HO_7.out, hC_⟩
      rw [if_pos c8] at H
      have c8b0 : decide (x8_1 < (l0.length : Int)) = true := decide_eq_true c8
      clear c8
      replace H := ifI_ H; obtain ⟨c9, H⟩ := H
      have c9b0 : decide (0 ≤ x8_1) = true := decide_eq_true c9
      clear c9
      by_cases c10 : ((rd_T41 l0 x8_1).f1) = a2
      case pos =>
        rw [if_pos c10] at H
        have c10b0 : (((rd_T41 l0 x8_1).f1) == a2) = true := beq_iff_eq.mpr c10
        have c10b1 : (((rd_T41 l0 x8_1).f1) != a2) = false := bne_eq_false_iff_eq.mpr c10
        clear c10
        replace H := ifI_ H; obtain ⟨c11, H⟩ := H
        have c11b0 : decide (x8_1 < (l1.length : Int)) = true := decide_eq_true c11
        clear c11
        replace H := ifI_ H; obtain ⟨c12, H⟩ := H
        have c12b0 : decide (x8_1 < (x7_1.length : Int)) = true := decide_eq_true c12
        clear c12
        obtain ⟨y165, hy165⟩ : ∃ y_ : List Bool, y_ = (x7_1.set (x8_1 : Int).toNat ((rd l1 x8_1) != 1)) := ⟨_, rfl⟩
        replace H : (half_doubts.l0 k1 l0 l1 a2 y165 (wrap64 (x8_1 + 1))) = some r := by first | (rw [hy165]; with_reducible exact H) | (have H2_ := (Option.bind_some _ _).symm.trans H; rw [hy165]; with_reducible exact H2_) | (have H2_ := (Option.bind_some _ _).symm.trans H; with_reducible exact H2_) | with_reducible exact H | (rw [hy165]; exact H) | exact H
        have Ny165 := Aside0.mk hy165
        clear hy165
        have H' := Aside0.mk H
        clear H
        have p163 : 0 ≤ (x8_1 : Int) := of_decide_eq_true hA_
        have q163 : x8_1 < (l0.length : Int) := of_decide_eq_true hA_
        obtain ⟨ad163, A163_2, c163_2, e163, hx163_0, hx163_1, hx163_2, hx163_3, hl163_2, hi163_2⟩ := at_T41 HR0.out x8_1 p163 q163
        cases e163
        replace hx163_0 := cl_ HB.out hx163_0
        replace hx163_1 := cl_ HB.out hx163_1
        replace hx163_2 := cl_ HB.out hx163_2
        replace hx163_3 := cl_ HB.out hx163_3
        have HR163_2 := Aside0.mk hi163_2
        have HC163_2 := Aside0.mk hl163_2
        clear hi163_2 hl163_2
        replace p163 := eq_true p163
        replace q163 := eq_true q163
        have p164 : 0 ≤ (x8_1 : Int) := of_decide_eq_true hA_
        have q164 : x8_1 < (l1.length : Int) := of_decide_eq_true hA_
        obtain ⟨ad164, e164, hx164_0⟩ := Kd.at_int HR1.out x8_1 p164 q164
        cases e164
        replace hx164_0 := cl_ HB.out hx164_0
        replace p164 := eq_true p164
        replace q164 := eq_true q164
        have p13 : 0 ≤ (x8_1 : Int) := of_decide_eq_true hA_
        have q13 : (x8_1 : Int) < ((x7_1.length : Int) : Int) := of_decide_eq_true hA_
        obtain ⟨go13, co13, eo13, gb13, gl13, cl13, HG13⟩ := Kd.R_form HO_7.out (by omega)
        (first | cases eo13 | (injection eo13 with ea_ en_ ec_; (first | subst ea_ | (injection ea_ with ea_; subst ea_)); subst ec_; clear en_))
        have GB13 := Aside0.mk gb13
        have GG13 := Aside0.mk HG13
        clear gb13 gl13 HG13
        obtain ⟨hx13_0, hf13_0⟩ := Kd.R_celln false HO_7.out (x8_1 : Int) p13 q13
        replace p13 := eq_true p13
        replace q13 := eq_true q13
        have HP14 := Kd.R_putg HO_7.out (x8_1 : Int) ((rd l1 x8_1) != 1)
        go_wp2_with (first | ((with_reducible refine gate_store (t := 4) (p := 44) rfl ?_); refine store_event (t := 4) (p := 44) (v := ?vo_w15) (w1 := (wr.setCell ⟨go13, (x8_1 : Int).toNat, none⟩ (.bool ((rd l1 x8_1) != 1)))) ?hg ?ho ?hn ?hr ?_; (case ho => rfl); (case hg => rfl); (case hn => rfl); (case hr => first | (go_simp; done) | (go_simp; rfl)); intro w15 hw; have hg : wr.grownBy w15 (some go13) := (by rw [hw]; exact HP14.2); have hp_ : Kd.R Kd.bool 4 w15 w.heap.size (fun _ => True) (.slice (some ⟨go13, 0, none⟩) x7_1.length co13) y165 := (by rw [hw, Ny165.out]; exact HP14.1); clear HP14; have n0_ := Aside0.mk (hp_); have n1_ := Aside0.mk ((by rw [hw]; exact below_set (HB.out) GB13.out : Below w.heap.size w w15)); clear HO_7 HB; have HO_7 := n0_; have HB := n1_; clear n0_ n1_; clear hg hw hp_))
        go_roundg k1
        case measure => have := HK1.out; omega
        case rel => exact ⟨(y165), (wrap64 (x8_1 + 1)), hW_, H', ⟨by have := HK1.out; omega⟩, ⟨hR_ HO_7.out⟩, ⟨hC_⟩⟩
      rw [if_neg c10] at H
      have c10b0 : (((rd_T41 l0 x8_1).f1) == a2) = false := beq_eq_false_iff_ne.mpr c10
      have c10b1 : (((rd_T41 l0 x8_1).f1) != a2) = true := bne_iff_ne.mpr c10
      replace H := ifI_ H; obtain ⟨c16, H⟩ := H
      have c16b0 : decide (0 ≤ ((rd_T41 l0 x8_1).f1)) = true := decide_eq_true c16
      clear c16
      replace H := ifI_ H; obtain ⟨c17, H⟩ := H
      have c17b0 : decide (((rd_T41 l0 x8_1).f1) < (x7_1.length : Int)) = true := decide_eq_true c17
      clear c17
      obtain ⟨bq18, hbq18⟩ : ∃ b_ : Bool, b_ = (rdOf false x7_1 ((rd_T41 l0 x8_1).f1)) := ⟨_, rfl⟩
      replace H : (if bq18 = true then (if x8_1 < (l1.length : Int) then (if x8_1 < (x7_1.length : Int) then (half_doubts.l0 k1 l0 l1 a2 (x7_1.set (x8_1 : Int).toNat ((rd l1 x8_1) != 1)) (wrap64 (x8_1 + 1))) else (none)) else (none)) else (if x8_1 < (x7_1.length : Int) then (half_doubts.l0 k1 l0 l1 a2 (x7_1.set (x8_1 : Int).toNat false) (wrap64 (x8_1 + 1))) else (none))) = some r := by rw [← hbq18] at H; exact H
      have Nbq18 := Aside0.mk hbq18
      clear hbq18
      by_cases c19 : bq18 = true
      case neg =>
        replace c19 := Bool.eq_false_iff.mpr c19
        subst c19
        have H1 : (if x8_1 < (x7_1.length : Int) then (half_doubts.l0 k1 l0 l1 a2 (x7_1.set (x8_1 : Int).toNat false) (wrap64 (x8_1 + 1))) else (none)) = some r := by rw [if_neg (show ¬ (false = true) by decide)] at H; exact H
        clear H
        have H := H1
        clear H1
        replace H := ifI_ H; obtain ⟨c26, H⟩ := H
        have c26b0 : decide (x8_1 < (x7_1.length : Int)) = true := decide_eq_true c26
        clear c26
        obtain ⟨y169, hy169⟩ : ∃ y_ : List Bool, y_ = (x7_1.set (x8_1 : Int).toNat false) := ⟨_, rfl⟩
        replace H : (half_doubts.l0 k1 l0 l1 a2 y169 (wrap64 (x8_1 + 1))) = some r := by first | (rw [hy169]; with_reducible exact H) | (have H2_ := (Option.bind_some _ _).symm.trans H; rw [hy169]; with_reducible exact H2_) | (have H2_ := (Option.bind_some _ _).symm.trans H; with_reducible exact H2_) | with_reducible exact H | (rw [hy169]; exact H) | exact H
        have Ny169 := Aside0.mk hy169
        clear hy169
        have H' := Aside0.mk H
        clear H
        have p163 : 0 ≤ (x8_1 : Int) := of_decide_eq_true hA_
        have q163 : x8_1 < (l0.length : Int) := of_decide_eq_true hA_
        obtain ⟨ad163, A163_2, c163_2, e163, hx163_0, hx163_1, hx163_2, hx163_3, hl163_2, hi163_2⟩ := at_T41 HR0.out x8_1 p163 q163
        cases e163
        replace hx163_0 := cl_ HB.out hx163_0
        replace hx163_1 := cl_ HB.out hx163_1
        replace hx163_2 := cl_ HB.out hx163_2
        replace hx163_3 := cl_ HB.out hx163_3
        have HR163_2 := Aside0.mk hi163_2
        have HC163_2 := Aside0.mk hl163_2
        clear hi163_2 hl163_2
        replace p163 := eq_true p163
        replace q163 := eq_true q163
        obtain ⟨Ao28, co28, eo28⟩ := Kd.R_slice HO_7.out
        subst eo28
        have p166 : 0 ≤ (((rd_T41 l0 x8_1).f1) : Int) := of_decide_eq_true hA_
        have q166 : ((rd_T41 l0 x8_1).f1) < (x7_1.length : Int) := of_decide_eq_true hA_
        obtain ⟨ad166, e166, hx166_0⟩ := Kd.at_bool (Kd.R_reads' HO_7.out).2.2 ((rd_T41 l0 x8_1).f1) p166 q166
        (try rw [← Nbq18.out] at hx166_0)
        cases e166
        replace p166 := eq_true p166
        replace q166 := eq_true q166
        have p27 : 0 ≤ (x8_1 : Int) := of_decide_eq_true hA_
        have q27 : (x8_1 : Int) < ((x7_1.length : Int) : Int) := of_decide_eq_true hA_
        obtain ⟨go27, co27, eo27, gb27, gl27, cl27, HG27⟩ := Kd.R_form HO_7.out (by omega)
        (first | cases eo27 | (injection eo27 with ea_ en_ ec_; (first | subst ea_ | (injection ea_ with ea_; subst ea_)); subst ec_; clear en_))
        have GB27 := Aside0.mk gb27
        have GG27 := Aside0.mk HG27
        clear gb27 gl27 HG27
        (first | simp only [add_plain] at hx166_0 | skip)
        obtain ⟨hx27_0, hf27_0⟩ := Kd.R_celln false HO_7.out (x8_1 : Int) p27 q27
        replace p27 := eq_true p27
        replace q27 := eq_true q27
        have HP29 := Kd.R_putg HO_7.out (x8_1 : Int) false
        go_wp2_with (first | ((with_reducible refine gate_store (t := 4) (p := 44) rfl ?_); refine store_event (t := 4) (p := 44) (v := ?vo_w30) (w1 := (wr.setCell ⟨go27, (x8_1 : Int).toNat, none⟩ (.bool false))) ?hg ?ho ?hn ?hr ?_; (case ho => rfl); (case hg => rfl); (case hn => rfl); (case hr => first | (go_simp; done) | (go_simp; rfl)); intro w30 hw; have hg : wr.grownBy w30 (some go27) := (by rw [hw]; exact HP29.2); have hp_ : Kd.R Kd.bool 4 w30 w.heap.size (fun _ => True) (.slice (some ⟨go27, 0, none⟩) x7_1.length co28) y169 := (by rw [hw, Ny169.out]; exact HP29.1); clear HP29; have n0_ := Aside0.mk (hp_); have n1_ := Aside0.mk ((by rw [hw]; exact below_set (HB.out) GB27.out : Below w.heap.size w w30)); clear HO_7 HB; have HO_7 := n0_; have HB := n1_; clear n0_ n1_; clear hg hw hp_))
        go_roundg k1
        case measure => have := HK1.out; omega
        case rel => exact ⟨(y169), (wrap64 (x8_1 + 1)), hW_, H', ⟨by have := HK1.out; omega⟩, ⟨hR_ HO_7.out⟩, ⟨hC_⟩⟩
      subst c19
      have H1 : (if x8_1 < (l1.length : Int) then (if x8_1 < (x7_1.length : Int) then (half_doubts.l0 k1 l0 l1 a2 (x7_1.set (x8_1 : Int).toNat ((rd l1 x8_1) != 1)) (wrap64 (x8_1 + 1))) else (none)) else (none)) = some r := by rw [if_pos rfl] at H; exact H
      clear H
      have H := H1
      clear H1
      replace H := ifI_ H; obtain ⟨c20, H⟩ := H
      have c20b0 : decide (x8_1 < (l1.length : Int)) = true := decide_eq_true c20
      clear c20
      replace H := ifI_ H; obtain ⟨c21, H⟩ := H
      have c21b0 : decide (x8_1 < (x7_1.length : Int)) = true := decide_eq_true c21
      clear c21
      obtain ⟨y168, hy168⟩ : ∃ y_ : List Bool, y_ = (x7_1.set (x8_1 : Int).toNat ((rd l1 x8_1) != 1)) := ⟨_, rfl⟩
      replace H : (half_doubts.l0 k1 l0 l1 a2 y168 (wrap64 (x8_1 + 1))) = some r := by first | (rw [hy168]; with_reducible exact H) | (have H2_ := (Option.bind_some _ _).symm.trans H; rw [hy168]; with_reducible exact H2_) | (have H2_ := (Option.bind_some _ _).symm.trans H; with_reducible exact H2_) | with_reducible exact H | (rw [hy168]; exact H) | exact H
      have Ny168 := Aside0.mk hy168
      clear hy168
      have H' := Aside0.mk H
      clear H
      have p163 : 0 ≤ (x8_1 : Int) := of_decide_eq_true hA_
      have q163 : x8_1 < (l0.length : Int) := of_decide_eq_true hA_
      obtain ⟨ad163, A163_2, c163_2, e163, hx163_0, hx163_1, hx163_2, hx163_3, hl163_2, hi163_2⟩ := at_T41 HR0.out x8_1 p163 q163
      cases e163
      replace hx163_0 := cl_ HB.out hx163_0
      replace hx163_1 := cl_ HB.out hx163_1
      replace hx163_2 := cl_ HB.out hx163_2
      replace hx163_3 := cl_ HB.out hx163_3
      have HR163_2 := Aside0.mk hi163_2
      have HC163_2 := Aside0.mk hl163_2
      clear hi163_2 hl163_2
      replace p163 := eq_true p163
      replace q163 := eq_true q163
      obtain ⟨Ao23, co23, eo23⟩ := Kd.R_slice HO_7.out
      subst eo23
      have p166 : 0 ≤ (((rd_T41 l0 x8_1).f1) : Int) := of_decide_eq_true hA_
      have q166 : ((rd_T41 l0 x8_1).f1) < (x7_1.length : Int) := of_decide_eq_true hA_
      obtain ⟨ad166, e166, hx166_0⟩ := Kd.at_bool (Kd.R_reads' HO_7.out).2.2 ((rd_T41 l0 x8_1).f1) p166 q166
      (try rw [← Nbq18.out] at hx166_0)
      cases e166
      replace p166 := eq_true p166
      replace q166 := eq_true q166
      have p167 : 0 ≤ (x8_1 : Int) := of_decide_eq_true hA_
      have q167 : x8_1 < (l1.length : Int) := of_decide_eq_true hA_
      obtain ⟨ad167, e167, hx167_0⟩ := Kd.at_int HR1.out x8_1 p167 q167
      cases e167
      replace hx167_0 := cl_ HB.out hx167_0
      replace p167 := eq_true p167
      replace q167 := eq_true q167
      have p22 : 0 ≤ (x8_1 : Int) := of_decide_eq_true hA_
      have q22 : (x8_1 : Int) < ((x7_1.length : Int) : Int) := of_decide_eq_true hA_
      obtain ⟨go22, co22, eo22, gb22, gl22, cl22, HG22⟩ := Kd.R_form HO_7.out (by omega)
      (first | cases eo22 | (injection eo22 with ea_ en_ ec_; (first | subst ea_ | (injection ea_ with ea_; subst ea_)); subst ec_; clear en_))
      have GB22 := Aside0.mk gb22
      have GG22 := Aside0.mk HG22
      clear gb22 gl22 HG22
      (first | simp only [add_plain] at hx166_0 | skip)
      obtain ⟨hx22_0, hf22_0⟩ := Kd.R_celln false HO_7.out (x8_1 : Int) p22 q22
      replace p22 := eq_true p22
      replace q22 := eq_true q22
      have HP24 := Kd.R_putg HO_7.out (x8_1 : Int) ((rd l1 x8_1) != 1)
      go_wp2_with (first | ((with_reducible refine gate_store (t := 4) (p := 44) rfl ?_); refine store_event (t := 4) (p := 44) (v := ?vo_w25) (w1 := (wr.setCell ⟨go22, (x8_1 : Int).toNat, none⟩ (.bool ((rd l1 x8_1) != 1)))) ?hg ?ho ?hn ?hr ?_; (case ho => rfl); (case hg => rfl); (case hn => rfl); (case hr => first | (go_simp; done) | (go_simp; rfl)); intro w25 hw; have hg : wr.grownBy w25 (some go22) := (by rw [hw]; exact HP24.2); have hp_ : Kd.R Kd.bool 4 w25 w.heap.size (fun _ => True) (.slice (some ⟨go22, 0, none⟩) x7_1.length co23) y168 := (by rw [hw, Ny168.out]; exact HP24.1); clear HP24; have n0_ := Aside0.mk (hp_); have n1_ := Aside0.mk ((by rw [hw]; exact below_set (HB.out) GB22.out : Below w.heap.size w w25)); clear HO_7 HB; have HO_7 := n0_; have HB := n1_; clear n0_ n1_; clear hg hw hp_))
      go_roundg k1
      case measure => have := HK1.out; omega
      case rel => exact ⟨(y168), (wrap64 (x8_1 + 1)), hW_, H', ⟨by have := HK1.out; omega⟩, ⟨hR_ HO_7.out⟩, ⟨hC_⟩⟩
end Go.Proofs.YtbnljapgnfmmoaaDoor.G
end
section
-- Laid by the session's own driver gp.py over the kit's printer. Not trusted: Lean checks it.
namespace Go.Proofs.YtbnljapgnfmmoaaDoor.G
open Go.RowKit Go.Proofs.YtbnljapgnfmmoaaDoorW.PrintWords Go.Proofs.YtbnljapgnfmmoaaDoorW.PrintLast Go.Proofs.YtbnljapgnfmmoaaDoorW.PrintMore
attribute [local go_sem] max2_int min2_int max_two min_two max_three min_three max_four min_four   -- for this text's walks alone
set_option linter.unusedVariables false
set_option linter.unusedSimpArgs false

/-! ### tree_Sizes: function 32, given -/
/-- what the program does, from the last node on -/
def sizesL (ns : List S41) (c : Int → Int) : Nat → List Int → List Int
  | 0, o => o
  | n + 1, o =>
    let o1 := o.set n (wrap64 (rd o (n : Int) + c (n : Int)))
    sizesL ns c n (if 0 < n then o1.set ((rd_T41 ns (n : Int)).f1).toNat (wrap64 (rd o1 (rd_T41 ns (n : Int)).f1 + rd o1 (n : Int))) else o1)
def sizesP (ns : List S41) (c : Int → Int) : List Int := sizesL ns c ns.length (List.replicate ns.length 0)
theorem sizesL_len (ns : List S41) (c : Int → Int) : ∀ (n : Nat) (o : List Int), (sizesL ns c n o).length = o.length
  | 0, _ => rfl
  | n + 1, o => by
    rw [sizesL, sizesL_len ns c n]
    split <;> simp
theorem infoIntS : (Tryd.prog.info? 3).map (fun i => (i.zero, i.size, i.bytes)) = some (some (.int .i64 0), 1, 8) := by kernel_rfl
section
attribute [local go_sem] Oper.semAt_some
set_option maxRecDepth 100000 in
set_option maxHeartbeats 8000000 in
theorem tree_Sizes.in_ (n : Nat) (hn : 2 ≤ n) (g : Nat) (lb : Array Value) (eg : ∀ args w, (callFunc g args).run Tryd.prog w = .ok (.enter g args) w) (c : Int → Int) (A0 : Option Addr) (c0 : Nat) (l0 : List S41) (h512 : l0.length ≤ 512)
    (hP : ∀ i : Int, 0 ≤ i → i < (l0.length : Int) → ((0 ≤ (rd_T41 l0 i).f1 ∧ (rd_T41 l0 i).f1 < i) ∨ (i = 0 ∧ (rd_T41 l0 i).f1 = -1))) (w : World) (hC : Kd.C k41 w A0 l0.length l0)
    (hc : ∀ (i : Int) (W : World), 0 ≤ i → i < (l0.length : Int) → Below w.heap.size w W → Calls Tryd.prog g (#[.int .i64 i] ++ lb) W fun e W' => e = .returned (.int .i64 (c i)) ∧ ∃ m, W' = W.drewN m) :
    CallsIn Fence.wide n Tryd.prog 32 #[.slice A0 l0.length c0, .func (.func g) #[] lb] w fun e w' => ∃ v, e = .returned v ∧ (Kd.int .i64).R 3 w' w.heap.size (fun _ => True) v (sizesP l0 c) ∧ Below w.heap.size w w' := by
  have HC := Aside0.mk hC
  have HCC := Aside0.mk hc
  have HPP := Aside0.mk hP
  clear hC hc hP
  have ffg : Fence.wide.fn g := trivial
  have hmk := print_make_of (P := Tryd.prog) 30 3 (.int .i64 0) 8 Tryd.underlying30 infoIntS rfl (by omega) l0.length (by omega)
  have hmix : Tryd.prog.follows .mixedOrders = true := by kernel_rfl
  refine callsIn_of_wp Tryd.func32 rfl trivial ?_ rfl
  simp only [Tryd.ntmps32, List.size_toArray, List.length_cons, List.length_nil, Nat.reduceAdd, Nat.reduceSub, Array.replicate_succ, Array.replicate_zero, List.push_toArray, List.append_toArray, List.nil_append, List.cons_append]
  have HO := Aside0.mk (own_made_of (enc := Value.int .i64) (d := (0 : Int)) w w.heap.size 3 l0.length (Nat.le_refl _) (by omega))
  gi_wp2
  gi_loopw [6] (fun v wr => ∃ x : Int, v = .int .i64 x ∧ Aside0 (-1 ≤ x ∧ x < (l0.length : Int)) ∧ Aside0 (∃ o : List Int, o.length = l0.length ∧ wr.ownsRow w.heap.size 3 1 (.slice (some ⟨w.heap.size, 0, none⟩) l0.length l0.length) l0.length (encs (Value.int .i64) o) ∧ sizesL l0 c (x + 1).toNat o = sizesP l0 c) ∧ Aside0 (Below w.heap.size w wr))
    (fun v _ => (intOf v + 1).toNat)
  case atStart =>
    exact ⟨(l0.length : Int) - 1, by first | rfl | (congr 1; omega) | (simp; omega), ⟨by omega, by omega⟩, ⟨List.replicate l0.length 0, by simp, HO.out, by rw [show ((l0.length : Int) - 1 + 1).toNat = l0.length by omega]; rfl⟩, ⟨(Below.refl _ w).alloc (Nat.le_refl _) _⟩⟩
  case round =>
    obtain ⟨x, rfl, HX, HJ, HB⟩ := hrel
    clear hmk
    by_cases hx : 0 ≤ x
    case neg =>
      have hxb := decide_eq_false hx
      have HN := Aside0.mk hx
      clear hx
      gi_wp2
      go_ret
      obtain ⟨o, ho, hrow, hsz⟩ := HJ.out
      rw [show (x + 1).toNat = 0 by have := HX.out; have := HN.out; omega, sizesL] at hsz
      subst hsz
      exact ⟨_, rfl, Kd.R_of_own (by rw [ho]; exact hrow) (fun _ _ => trivial), HB.out⟩
    have hxb := decide_eq_true hx
    have hlt : x < (l0.length : Int) := HX.out.2
    obtain ⟨o, ho, hrow, hsz⟩ := HJ.out
    obtain ⟨hcx, hfx⟩ := own_at_of (d := (0 : Int)) hrow x hx hlt
    have HR := Aside0.mk (And.intro ho (And.intro hrow (And.intro hsz hx)))
    clear ho hrow hsz
    replace hlt := eq_true hlt
    replace hx := eq_true hx
    have HQ := Aside0.mk (fun k => HCC.out x (wr.drewN k) (of_eq_true hx) (of_eq_true hlt) (below_dn HB.out k))
    gi_wp2
    refine wpIn_region_head 9 rfl hmix (by kernel_rfl) ?_
    simp only [List.take_succ_cons, List.take_zero, List.drop_succ_cons, List.drop_zero]
    iterate 6 (quiet_step_in (fail))
    quiet_step_in (exact ⟨fun _ => by omega, CallsIn.quiet_of (callsIn_wide.2 (HQ.out _))⟩)
    iterate 2 (quiet_step_in (fail))
    refine wpQuietIn_nil ?_
    intro _ hw'
    obtain ⟨nq, hw''⟩ := hw'
    subst hw''
    by_cases hx1 : 0 < x
    case neg =>
      have hx1b := decide_eq_false hx1
      gi_wp2
      obtain ⟨ho, hrow, hsz, hX⟩ := HR.out
      have hst := (own_store_of (enc := Value.int .i64) (W := wr.drewN nq) hrow x (wrap64 (rdOf 0 o x + c x))).1
      have hb2 : Below w.heap.size w ((wr.drewN nq).setCell ⟨w.heap.size, x.toNat, none⟩ (Value.int .i64 (wrap64 (rdOf 0 o x + c x)))) := (below_dn HB.out nq).setCell (p := ⟨w.heap.size, x.toNat, none⟩) (Nat.le_refl _) _
      obtain rfl : x = 0 := by omega
      rw [show wrap64 ((0 : Int) - 1) = -1 from by unfold wrap64; omega]
      refine ⟨⟨-1, rfl, ⟨by omega, by omega⟩, ⟨_, by simpa using ho, hst, ?_⟩, ⟨hb2⟩⟩, by decide⟩
      rw [← hsz]
      rfl
    have hx1b := decide_eq_true hx1
    gi_wp2
    obtain ⟨ho, hrow, hsz, _⟩ := HR.out
    have hst := (own_store_of (enc := Value.int .i64) (W := wr.drewN nq) hrow x (wrap64 (rdOf 0 o x + c x))).1
    have hb2 : Below w.heap.size w ((wr.drewN nq).setCell ⟨w.heap.size, x.toNat, none⟩ (Value.int .i64 (wrap64 (rdOf 0 o x + c x)))) := (below_dn HB.out nq).setCell (p := ⟨w.heap.size, x.toNat, none⟩) (Nat.le_refl _) _
    obtain ⟨W2, hW2⟩ : ∃ W2, (wr.drewN nq).setCell ⟨w.heap.size, x.toNat, none⟩ (Value.int .i64 (wrap64 (rdOf 0 o x + c x))) = W2 := ⟨_, rfl⟩
    obtain ⟨o1, ho1⟩ : ∃ o1, o1 = o.set x.toNat (wrap64 (rdOf 0 o x + c x)) := ⟨_, rfl⟩
    rw [hW2] at hst hb2 ⊢
    rw [← ho1] at hst
    have hX := HR.out.2.2.2
    have hpx := HPP.out x hX (of_eq_true hlt)
    obtain ⟨ad, A2, c2, e0, g0, g1, g2, g3, hl2, hi2⟩ := at_T41 HC.out x hX (of_eq_true hlt)
    cases e0
    replace g1 := (hb2.cell (World.block_lt_of_cell? w _ g1)).trans g1
    have hp0 : 0 ≤ (rd_T41 l0 x).f1 := by omega
    have hp1 : (rd_T41 l0 x).f1 < (l0.length : Int) := by have := of_eq_true hlt; omega
    obtain ⟨hc1, hf1⟩ := own_at_of (d := (0 : Int)) hst x hX (of_eq_true hlt)
    obtain ⟨hc2, hf2⟩ := own_at_of (d := (0 : Int)) hst (rd_T41 l0 x).f1 hp0 hp1
    have HS := Aside0.mk (And.intro hst (And.intro hb2 (And.intro ho1 (And.intro hp0 (And.intro hp1 hx1)))))
    clear hst hb2 hW2 ho1 hpx g0 g2 g3 hl2 hi2 hcx hfx ho hrow hsz hX hx1 hx1b
    replace hp0 := eq_true hp0
    replace hp1 := eq_true hp1
    refine wpIn_region_head 14 rfl hmix (by kernel_rfl) ?_
    simp only [List.take_succ_cons, List.take_zero, List.drop_succ_cons, List.drop_zero]
    iterate 14 (quiet_step_in (fail))
    refine wpQuietIn_nil ?_
    intro _ hw'
    obtain ⟨nq2, hw''⟩ := hw'
    subst hw''
    gi_wp2
    obtain ⟨hst, hb2, ho1, hp0', hp1', hx1'⟩ := HS.out
    obtain ⟨ho, hrow, hsz, hX⟩ := HR.out
    have hw1 : wrap64 (x - 1) = x - 1 := by have := HX.out; unfold wrap64; omega
    rw [hw1]
    refine ⟨⟨x - 1, rfl, ⟨by omega, by have := HX.out; omega⟩, ⟨_, by rw [List.length_set, ho1, List.length_set]; exact ho, (own_store_of (enc := Value.int .i64) (W := W2.drewN nq2) hst (rd_T41 l0 x).f1 _).1, ?_⟩, ⟨(below_dn hb2 nq2).setCell (p := ⟨w.heap.size, (rd_T41 l0 x).f1.toNat, none⟩) (Nat.le_refl _) _⟩⟩, by simp only [intOf]; omega⟩
    rw [← hsz, show (x + 1).toNat = x.toNat + 1 by omega, show (x - 1 + 1).toNat = x.toNat by omega, sizesL]
    simp only [show ((x.toNat : Nat) : Int) = x by omega]
    rw [if_pos (show 0 < x.toNat by omega), ho1]
    rfl
end

end Go.Proofs.YtbnljapgnfmmoaaDoor.G
end
section
-- Laid by the session's own driver gp.py over the kit's printer. Not trusted: Lean checks it.
namespace Go.Proofs.YtbnljapgnfmmoaaDoor.G
open Go.RowKit Go.Proofs.YtbnljapgnfmmoaaDoorW.PrintWords Go.Proofs.YtbnljapgnfmmoaaDoorW.PrintLast Go.Proofs.YtbnljapgnfmmoaaDoorW.PrintMore
attribute [local go_sem] max2_int min2_int max_two min_two max_three min_three max_four min_four   -- for this text's walks alone
set_option linter.unusedVariables false
set_option linter.unusedSimpArgs false

/-! ### half_Ask: function 25, given -/
def openB (d : List Bool) (ms : List Int) (i : Int) : Bool := rdOf false d i && (rd ms i == 0)
def oneB (d : List Bool) (ms : List Int) (i : Int) : Int := if openB d ms i = true then 1 else 0
def szH (ns : List S41) (d : List Bool) (ms : List Int) : List Int := sizesP ns (oneB d ms)
def offW (x m : Int) : Int := mx (wrap64 (wrap64 (2 * x) - m)) (wrap64 (m - wrap64 (2 * x)))
theorem off_calls (x m : Int) (W : World) : Calls Tryd.prog 34 #[.int .i64 x, .int .i64 m] W fun e W' => e = .returned (.int .i64 (offW x m)) ∧ W' = W := by
  unfold offW mx
  by_cases c : wrap64 (wrap64 (2 * x) - m) < wrap64 (m - wrap64 (2 * x))
  case pos =>
    rw [if_pos c]
    go_enter Tryd.func34, Tryd.ntmps34
    go_wp2
    go_ret
    exact ⟨rfl, rfl⟩
  rw [if_neg c]
  go_enter Tryd.func34, Tryd.ntmps34
  go_wp2
  go_ret
  exact ⟨rfl, rfl⟩
def bestH (sz : List Int) (d : List Bool) (ms : List Int) (m : Int) : Nat → Int
  | 0 => -1
  | n + 1 => if openB d ms (n : Int) = true ∧ (bestH sz d ms m n < 0 ∨ offW (rd sz (n : Int)) m < offW (rd sz (bestH sz d ms m n)) m) then (n : Int) else bestH sz d ms m n
theorem bestH_range (sz : List Int) (d : List Bool) (ms : List Int) (m : Int) : ∀ n : Nat, -1 ≤ bestH sz d ms m n ∧ bestH sz d ms m n < (n : Int)
  | 0 => ⟨Int.le_refl _, by show (-1 : Int) < 0; omega⟩
  | n + 1 => by
    have := bestH_range sz d ms m n
    rw [bestH]
    split <;> omega
def parB (ns : List S41) : Bool := (List.range ns.length).all fun i => decide ((0 ≤ (rd_T41 ns (i : Int)).f1 ∧ (rd_T41 ns (i : Int)).f1 < (i : Int)) ∨ ((i : Int) = 0 ∧ (rd_T41 ns (i : Int)).f1 = -1))
theorem parB_at {ns : List S41} (h : parB ns = true) (i : Int) (h0 : 0 ≤ i) (h1 : i < (ns.length : Int)) : ((0 ≤ (rd_T41 ns i).f1 ∧ (rd_T41 ns i).f1 < i) ∨ (i = 0 ∧ (rd_T41 ns i).f1 = -1)) := by
  have := of_decide_eq_true (List.all_eq_true.1 h i.toNat (List.mem_range.2 (by omega)))
  rw [show ((i.toNat : Nat) : Int) = i by omega] at this
  exact this
def half_Ask.f (k : Nat) (l0 : List S41) (l1 : List Int) : Option (Int × Int) :=
  if 0 < l0.length ∧ l0.length ≤ 512 ∧ l1.length = l0.length ∧ parB l0 = true then
    (if rd l1 0 = 2 then (half_last.f k l1).bind fun w => (half_doubts.f k l0 l1 w).bind fun d =>
      if 0 ≤ w ∧ w < (l0.length : Int) ∧ d.length = l0.length then
        (if bestH (szH l0 d l1) d l1 (rd (szH l0 d l1) w) l0.length < 0 then top_Bug.f l0 l1 w else some (0, bestH (szH l0 d l1) d l1 (rd (szH l0 d l1) w) l0.length)) else none
    else top_Ask.f k l0 l1) else none
theorem half_Ask.mono : ∀ a0 a1 k, LeO (half_Ask.f k a0 a1) (half_Ask.f (k + 1) a0 a1) := by
  intro a0 a1 k
  unfold half_Ask.f
  refine LeO.ite (LeO.ite (LeO.bind (half_last.mono _ _) (fun _ => LeO.bind (half_doubts.mono _ _ _ _) (fun _ => LeO.refl _))) (top_Ask.mono _ _ _)) (LeO.none _)
theorem open_calls (W : World) (Bd Bm : Nat) (d : List Bool) (ms : List Int) (Ad : Option Addr) (cd : Nat) (A1 : Option Addr) (c1 : Nat) (hd : W.cell? ⟨Bd, 0, none⟩ = some (.slice Ad d.length cd)) (hm : W.cell? ⟨Bm, 0, none⟩ = some (.slice A1 ms.length c1))
    (hD : Kd.C Kd.bool W Ad d.length d) (hM : Kd.C (Kd.int .i64) W A1 ms.length ms) (i : Int) (h0 : 0 ≤ i) (h1 : i < (d.length : Int)) (h2 : i < (ms.length : Int)) :
    Calls Tryd.prog 31 #[.int .i64 i, .pointer (some ⟨Bd, 0, none⟩), .pointer (some ⟨Bm, 0, none⟩)] W fun e W' => e = .returned (.bool (openB d ms i)) ∧ W' = W := by
  obtain ⟨ad, e0, g0⟩ := Kd.at_bool hD i h0 h1
  cases e0
  obtain ⟨am, e1, g1⟩ := Kd.at_int hM i h0 h2
  cases e1
  unfold openB
  clear hD hM
  replace h0 := eq_true h0
  replace h1 := eq_true h1
  replace h2 := eq_true h2
  cases hb : rdOf false d i with
  | true =>
    rw [hb] at g0
    rw [Bool.true_and]
    go_enter Tryd.func31, Tryd.ntmps31
    go_wp2
    go_ret
    exact ⟨rfl, rfl⟩
  | false =>
    rw [hb] at g0
    rw [Bool.false_and]
    go_enter Tryd.func31, Tryd.ntmps31
    go_wp2
    go_ret
    exact ⟨rfl, rfl⟩
theorem one_calls (W : World) (Bf Bd Bm : Nat) (d : List Bool) (ms : List Int) (Ad : Option Addr) (cd : Nat) (A1 : Option Addr) (c1 : Nat) (hf : W.cell? ⟨Bf, 0, none⟩ = some (.func (.func 31) #[] #[.pointer (some ⟨Bd, 0, none⟩), .pointer (some ⟨Bm, 0, none⟩)])) (hd : W.cell? ⟨Bd, 0, none⟩ = some (.slice Ad d.length cd)) (hm : W.cell? ⟨Bm, 0, none⟩ = some (.slice A1 ms.length c1))
    (hD : Kd.C Kd.bool W Ad d.length d) (hM : Kd.C (Kd.int .i64) W A1 ms.length ms) (i : Int) (h0 : 0 ≤ i) (h1 : i < (d.length : Int)) (h2 : i < (ms.length : Int)) :
    Calls Tryd.prog 33 #[.int .i64 i, .pointer (some ⟨Bf, 0, none⟩)] W fun e W' => e = .returned (.int .i64 (oneB d ms i)) ∧ ∃ m, W' = W.drewN m := by
  have h : Calls Tryd.prog 33 #[.int .i64 i, .pointer (some ⟨Bf, 0, none⟩)] W fun e W' => e = .returned (.int .i64 (oneB d ms i)) ∧ W' = W := by
    have HO := Aside0.mk (open_calls W Bd Bm d ms Ad cd A1 c1 hd hm hD hM i h0 h1 h2)
    clear hd hm hD hM
    unfold oneB
    cases ho : openB d ms i with
    | true =>
      rw [ho] at HO
      rw [if_pos rfl]
      go_enter Tryd.func33, Tryd.ntmps33
      go_wp2_with (first
        | (go_at_call 31; refine HO.out.mono ?_; rintro e w5 ⟨rfl, rfl⟩))
      go_ret
      exact ⟨rfl, rfl⟩
    | false =>
      rw [ho] at HO
      rw [if_neg Bool.false_ne_true]
      go_enter Tryd.func33, Tryd.ntmps33
      go_wp2_with (first
        | (go_at_call 31; refine HO.out.mono ?_; rintro e w5 ⟨rfl, rfl⟩))
      go_ret
      exact ⟨rfl, rfl⟩
  exact h.mono fun e W' ⟨h1, h2⟩ => ⟨h1, 0, h2⟩
theorem two_boxes (w6 : World) (z1 z2 s f : Value) (t1 t2 : TypeId) : ∀ W7, W7 = ((((w6.alloc (.cells #[z1] t1)).setCell ⟨w6.heap.size, 0, none⟩ s).alloc (.cells #[z2] t2)).setCell ⟨w6.heap.size + 1, 0, none⟩ f) →
    Boxed W7 w6.heap.size t1 s ∧ Boxed W7 (w6.heap.size + 1) t2 f ∧ Below w6.heap.size w6 W7 ∧ W7.heap.size = w6.heap.size + 2 := by
  rintro _ rfl
  have b1 := (Boxed.new w6 t1 z1).set s
  have sz : ∀ (W : World) (p : Addr) (v : Value), (W.setCell p v).heap.size = W.heap.size := fun W p v => by show (W.heap.modify _ _).size = _; rw [Array.size_modify]
  have e1 : ((w6.alloc (.cells #[z1] t1)).setCell ⟨w6.heap.size, 0, none⟩ s).heap.size = w6.heap.size + 1 := by rw [sz]; simp
  have b2 := Boxed.new ((w6.alloc (.cells #[z1] t1)).setCell ⟨w6.heap.size, 0, none⟩ s) t2 z2
  rw [e1] at b2
  have hB : Below w6.heap.size w6 ((w6.alloc (.cells #[z1] t1)).setCell ⟨w6.heap.size, 0, none⟩ s) := ((Below.refl _ w6).alloc (Nat.le_refl _) _).setCell (p := ⟨w6.heap.size, 0, none⟩) (Nat.le_refl _) _
  refine ⟨(b1.alloc _).other (by omega) _, b2.set _, (hB.alloc (by omega) _).setCell (p := ⟨w6.heap.size + 1, 0, none⟩) (Nat.le_succ _) _, ?_⟩
  rw [sz, World.size_alloc, e1]
def Half8 (w : World) (am : Addr) (c1 : Nat) (l1 : List Int) (Ad : Option Addr) (cd : Nat) (d : List Bool) (Bd Bf : Nat) (w8 : World) : Prop :=
  (Below w.heap.size w w8 ∧ Boxed w8 w.heap.size 30 (.slice (some am) l1.length c1) ∧ Boxed2 w8 (w.heap.size + 1) 45 (.int .i64 0) (.int .i64 0)) ∧
  (Boxed w8 Bd 65 (.slice Ad d.length cd) ∧ Boxed w8 Bf 43 (.func (.func 31) #[] #[.pointer (some ⟨Bd, 0, none⟩), .pointer (some ⟨w.heap.size, 0, none⟩)])) ∧ Kd.C Kd.bool w8 Ad d.length d ∧ Kd.C (Kd.int .i64) w8 (some am) l1.length l1
theorem half_sizes (n : Nat) (hn : 2 ≤ n) (w W2 w6 W6a W7 : World) (nd : Nat) (A0 : Option Addr) (c0 : Nat) (l0 : List (S41)) (am : Addr) (c1 : Nat) (l1 : List Int) (Ad : Option Addr) (cd : Nat) (d : List Bool)
    (hr0 : Kd.C k41 w A0 l0.length l0) (hr1 : Kd.C (Kd.int .i64) w (some am) l1.length l1) (h512 : l0.length ≤ 512) (hp : parB l0 = true) (hl : l1.length = l0.length) (hdl : d.length = l0.length)
    (h2 : Below w.heap.size w W2 ∧ Boxed W2 w.heap.size 30 (.slice (some am) l1.length c1) ∧ Boxed2 W2 (w.heap.size + 1) 45 (.int .i64 0) (.int .i64 0))
    (hR6 : Kd.R Kd.bool 4 w6 (W2.drewN nd).heap.size (fun _ => True) (.slice Ad d.length cd) d) (hb6 : Below (W2.drewN nd).heap.size (W2.drewN nd) w6)
    (h6a : (w6.alloc (.cells #[.slice none 0 0] 65)).setCell ⟨w6.heap.size, 0, none⟩ (.slice Ad d.length cd) = W6a)
    (h7 : W6a.alloc (.cells #[.func (.func 31) #[] #[.pointer (some ⟨w6.heap.size, 0, none⟩), .pointer (some ⟨w.heap.size, 0, none⟩)]] 43) = W7) :
    CallsIn Fence.wide n Tryd.prog 32 #[.slice A0 l0.length c0, .func (.func 33) #[] #[.pointer (some ⟨W6a.heap.size, 0, none⟩)]] W7 fun e w8 =>
      ∃ Az cz, e = .returned (.slice Az l0.length cz) ∧ Kd.C (Kd.int .i64) w8 Az l0.length (szH l0 d l1) ∧ Half8 w am c1 l1 Ad cd d w6.heap.size W6a.heap.size w8 := by
  have sz : ∀ (W : World) (p : Addr) (v : Value), (W.setCell p v).heap.size = W.heap.size := fun W p v => by show (W.heap.modify _ _).size = _; rw [Array.size_modify]
  have e6 : W6a.heap.size = w6.heap.size + 1 := by rw [← h6a, sz]; simp
  have e7 : W7.heap.size = w6.heap.size + 2 := by rw [← h7, World.size_alloc, e6]
  have s2 := h2.2.2.lt
  have s6 : W2.heap.size ≤ w6.heap.size := hb6.size
  have B6a : Below w6.heap.size w6 W6a := by rw [← h6a]; exact ((Below.refl _ w6).alloc (Nat.le_refl _) _).setCell (p := ⟨w6.heap.size, 0, none⟩) (Nat.le_refl _) _
  have B7 : Below w6.heap.size w6 W7 := by rw [← h7]; exact B6a.alloc (by omega) _
  have bd6 : Boxed W6a w6.heap.size 65 (.slice Ad d.length cd) := by rw [← h6a]; exact (Boxed.new w6 _ _).set _
  have bd : Boxed W7 w6.heap.size 65 (.slice Ad d.length cd) := by rw [← h7]; exact bd6.alloc _
  have bf : Boxed W7 W6a.heap.size 43 (.func (.func 31) #[] #[.pointer (some ⟨w6.heap.size, 0, none⟩), .pointer (some ⟨w.heap.size, 0, none⟩)]) := by rw [← h7]; exact Boxed.new W6a _ _
  have hB6 : Below w.heap.size w w6 := (below_dn h2.1 nd).trans (hb6.mono h2.1.size)
  have hB7 : Below w.heap.size w W7 := hB6.trans (B7.mono hB6.size)
  have m6 : Boxed w6 w.heap.size 30 (.slice (some am) l1.length c1) := (hb6.block _ (by show w.heap.size < W2.heap.size; omega)).trans h2.2.1
  have r6 : Boxed2 w6 (w.heap.size + 1) 45 (.int .i64 0) (.int .i64 0) := (hb6.block _ (by show w.heap.size + 1 < W2.heap.size; omega)).trans h2.2.2
  have m7 : Boxed W7 w.heap.size 30 (.slice (some am) l1.length c1) := (B7.block _ (by omega)).trans m6
  have r7 : Boxed2 W7 (w.heap.size + 1) 45 (.int .i64 0) (.int .i64 0) := (B7.block _ (by omega)).trans r6
  have d7 : Kd.C Kd.bool W7 Ad d.length d := Kd.C_below (Kd.R_reads' hR6).2.2 B7
  have c7 : Kd.C (Kd.int .i64) W7 (some am) l1.length l1 := Kd.C_below hr1 hB7
  refine (tree_Sizes.in_ n hn 33 #[.pointer (some ⟨W6a.heap.size, 0, none⟩)] (enters_of Tryd.func33 (by kernel_rfl) rfl) (oneB d l1) A0 c0 l0 h512 (parB_at hp) W7 (Kd.C_below hr0 hB7)
    (fun i W h0 h1 hb => one_calls W W6a.heap.size w6.heap.size w.heap.size d l1 Ad cd (some am) c1 (Boxed.cell (show Boxed W W6a.heap.size _ _ from (hb.block _ (by omega)).trans bf)) (Boxed.cell (show Boxed W w6.heap.size _ _ from (hb.block _ (by omega)).trans bd)) (Boxed.cell (show Boxed W w.heap.size _ _ from (hb.block _ (by omega)).trans m7)) (Kd.C_below d7 hb) (Kd.C_below c7 hb) i h0 (by omega) (by omega))).mono ?_
  rintro e w8 ⟨v, rfl, hr, hb⟩
  obtain ⟨Az, cz, rfl, hlz, hC⟩ := Kd.R_reads hr
  have hlen : (szH l0 d l1).length = l0.length := by show (sizesP l0 (oneB d l1)).length = _; unfold sizesP; rw [sizesL_len, List.length_replicate]
  have hC' : Kd.C (Kd.int .i64) w8 Az (szH l0 d l1).length (szH l0 d l1) := hC
  rw [hlen] at hC'
  have e9 : (sizesP l0 (oneB d l1)).length = l0.length := hlen
  refine ⟨Az, cz, by rw [e9], hC', ⟨hB7.trans (hb.mono hB7.size), (hb.block _ (by omega)).trans m7, (hb.block _ (by omega)).trans r7⟩, ⟨(hb.block _ (by omega)).trans bd, (hb.block _ (by omega)).trans bf⟩, Kd.C_below d7 hb, Kd.C_below c7 hb⟩
theorem run_store_func (P : Program) (w : World) (a : Addr) (m : Mode) (f : Fn) (x y : Array Value) : (store a (.func f x y) m).run P w = stored P w a (.func f x y) m := run_store P w a _ m rfl
section
attribute [local go_sem] Oper.semAt_some run_store_func
set_option maxHeartbeats 8000000 in
set_option maxRecDepth 100000 in
theorem half_Ask.inW (n : Nat) (hn : 4 ≤ n) (k : Nat) (A0 : Option Addr) (c0 : Nat) (l0 : List (S41)) (A1 : Option Addr) (c1 : Nat) (l1 : List Int) (wg : Int) (d : List Bool) (r1 r2 : Int) (w : World) (hr0 : Kd.C k41 w A0 l0.length l0) (hc0 : l0.length ≤ c0) (hr1 : Kd.C (Kd.int .i64) w A1 l1.length l1) (hc1 : l1.length ≤ c1)
    (h0 : rd l1 0 = 2) (hn0 : 0 < l0.length) (h512 : l0.length ≤ 512) (hl : l1.length = l0.length) (hp : parB l0 = true) (hL : half_last.f k l1 = some wg) (hD : half_doubts.f k l0 l1 wg = some d) (hw0 : 0 ≤ wg) (hw1 : wg < (l0.length : Int)) (hdl : d.length = l0.length)
    (hr : (if bestH (szH l0 d l1) d l1 (rd (szH l0 d l1) wg) l0.length < 0 then top_Bug.f l0 l1 wg else some (0, bestH (szH l0 d l1) d l1 (rd (szH l0 d l1) wg) l0.length)) = some (r1, r2)) :
    CallsIn Fence.wide n Tryd.prog 25 #[.slice A0 l0.length c0, .slice A1 l1.length c1] w fun e w' => e = .returned (.agg #[.int .i64 r1, .int .i64 r2]) ∧ Below w.heap.size w w' := by
  have hn1 : 1 ≤ n := by omega
  obtain ⟨am, e, g⟩ := Kd.at_int hr1 0 (by omega) (by omega)
  cases e
  have HR0 := Aside0.mk hr0
  have HC0 := Aside0.mk hc0
  have HR1 := Aside0.mk hr1
  have HC1 := Aside0.mk hc1
  have HL := Aside0.mk hL
  have HD := Aside0.mk hD
  have HRR := Aside0.mk hr
  have HM := Aside0.mk (And.intro hw0 (And.intro hw1 (And.intro hl (And.intro h512 (And.intro hdl (And.intro hn0 hp))))))
  have hmix : Tryd.prog.follows .mixedOrders = true := by kernel_rfl
  have hu := Tryd.underlying45
  have hB2 : Below w.heap.size w ((w.alloc (.cells #[.slice (some am) l1.length c1] 30)).alloc (.cells #[.int .i64 0, .int .i64 0] 45)) := ((Below.refl _ w).alloc (Nat.le_refl _) _).alloc (by simp) _
  have bx0 := ((Boxed.new w 30 (.slice (some am) l1.length c1)).alloc (.cells #[.int .i64 0, .int .i64 0] 45))
  have bx1 := Boxed2.new (w.alloc (.cells #[.slice (some am) l1.length c1] 30)) 45 (.int .i64 0) (.int .i64 0)
  simp only [World.size_alloc] at bx1
  have g1 := (hB2.cell (World.block_lt_of_cell? w _ g)).trans g
  rw [h0] at g1
  have cb := bx0.cell
  have HB2 := Aside0.mk (And.intro hB2 (And.intro bx0 bx1))
  have hpos : ((0 : Int) < (l1.length : Int)) = True := eq_true (by omega)
  have hposn : (0 < l1.length) = True := eq_true (by omega)
  clear hr0 hc0 hr1 hc1 hL hD hr hw0 hw1 hl h512 hdl hn0 hp g h0 bx0 bx1 hB2
  obtain ⟨W2, hW2⟩ : ∃ W2, (w.alloc (.cells #[.slice (some am) l1.length c1] 30)).alloc (.cells #[.int .i64 0, .int .i64 0] 45) = W2 := ⟨_, rfl⟩
  rw [hW2] at g1 cb HB2
  rw [show am.add (Int.toNat 0) = am from by cases am; rfl] at g1
  refine callsIn_of_wp Tryd.func25 rfl trivial ?_ rfl
  simp only [Tryd.ntmps25, List.size_toArray, List.length_cons, List.length_nil, Nat.reduceAdd, Nat.reduceSub, Array.replicate_succ, Array.replicate_zero, List.push_toArray, List.append_toArray, List.nil_append, List.cons_append]
  have ff1 : Fence.wide.fn 29 := trivial
  have ff2 : Fence.wide.fn 30 := trivial
  have ff3 : Fence.wide.fn 32 := trivial
  have ff4 : Fence.wide.fn 31 := trivial
  have ff5 : Fence.wide.fn 34 := trivial
  have ff6 : Fence.wide.fn 35 := trivial
  have ls2 : w.heap.size + 1 < W2.heap.size := HB2.out.2.2.lt
  have LS2 := Aside0.mk ls2
  clear ls2
  gi_wp2_with (first
    | (gi_at_call 29; refine ((callsIn_wide (n := n - 1)).2 (half_last.calls k _ _ l1 wg _ (Kd.C_below HR1.out HB2.out.1) HC1.out HL.out)).mono ?_; rintro e w5 ⟨rfl, ⟨nd, rfl⟩⟩; have cb5 : (W2.drewN nd).cell? ⟨w.heap.size, 0, none⟩ = some (.slice (some am) l1.length c1) := HB2.out.2.1.cell)
    | (gi_at_call 30; refine ((callsIn_wide (n := n - 1)).2 (half_doubts.calls k _ _ l0 _ _ l1 wg d _ (Kd.C_below HR0.out (below_dn HB2.out.1 _)) HC0.out (Kd.C_below HR1.out (below_dn HB2.out.1 _)) HC1.out HD.out)).mono ?_; rintro e w6 ⟨v6, rfl, hR6, hb6⟩; obtain ⟨Ad, cd, e6⟩ := Kd.R_slice hR6; subst e6; have cb6 : w6.cell? ⟨w.heap.size, 0, none⟩ = some (.slice (some am) l1.length c1) := (hb6.cell (p := ⟨w.heap.size, 0, none⟩) (Nat.lt_of_succ_lt LS2.out)).trans HB2.out.2.1.cell; have HX6 := Aside0.mk (And.intro hR6 hb6); clear hR6 hb6; obtain ⟨W6a, hW6a⟩ : ∃ W6a, (w6.alloc (.cells #[.slice none 0 0] 65)).setCell ⟨w6.heap.size, 0, none⟩ (.slice Ad d.length cd) = W6a := ⟨_, rfl⟩)
    | (gi_at_call 32; generalize hW7 : World.alloc _ _ = W7; refine (half_sizes (n - 1) (by omega) w W2 w6 W6a W7 _ A0 c0 l0 am c1 l1 Ad cd d HR0.out HR1.out HM.out.2.2.2.1 HM.out.2.2.2.2.2.2 HM.out.2.2.1 HM.out.2.2.2.2.1 HB2.out HX6.out.1 HX6.out.2 hW6a hW7).mono ?_; rintro e w8 ⟨Az, cz, rfl, hz8, h8⟩; obtain ⟨az, e8, g8⟩ := Kd.at_int hz8 wg HM.out.1 HM.out.2.1; subst e8; have p8 := eq_true HM.out.1; have q8 := eq_true HM.out.2.1; have HZ := Aside0.mk (And.intro hz8 h8); clear hz8 h8 hW7 hW6a cb cb5 cb6 g1 hpos hposn hW2))
  clear g8 p8 q8
  obtain ⟨sz, hsz⟩ : ∃ sz, szH l0 d l1 = sz := ⟨_, rfl⟩
  rw [hsz] at HZ HRR
  simp only [hsz]
  obtain ⟨m, hm⟩ : ∃ m, rd sz wg = m := ⟨_, rfl⟩
  rw [hm] at HRR
  simp only [hm]
  gi_loopw [10, 36] (fun v10 v36 wr => ∃ b x : Int, v10 = .int .i64 b ∧ v36 = .int .i64 x ∧ Aside0 (0 ≤ x ∧ x ≤ (l0.length : Int)) ∧ Aside0 (b = bestH sz d l1 m x.toNat ∧ ∃ q, wr = w8.drewN q))
    (fun _ v _ => l0.length - (intOf v).toNat)
  case atStart => exact ⟨-1, 0, by first | rfl | (congr 1; omega), by first | rfl | (congr 1; omega), ⟨by omega, by omega⟩, ⟨rfl, 0, rfl⟩⟩
  case round =>
    obtain ⟨b, x, rfl, rfl, HX, HBq⟩ := hrel
    obtain ⟨hb, q, hq⟩ := HBq.out
    have hbr := bestH_range sz d l1 m x.toNat
    rw [← hb] at hbr
    obtain ⟨⟨hB8, bm8, br8⟩, ⟨bd8, bf8⟩, hd8, hc8⟩ := HZ.out.2
    have hz8 := HZ.out.1
    by_cases hlt : x < (l0.length : Int)
    case neg =>
      have hltb := decide_eq_false hlt
      have hxl : x.toNat = l0.length := by have := HX.out; omega
      rw [hxl] at hb
      clear hbr
      rw [← hb] at HRR
      have hm' : wr.cell? ⟨w.heap.size, 0, none⟩ = some (.slice (some am) l1.length c1) := by rw [hq]; exact bm8.cell
      have hr' : Boxed2 wr (w.heap.size + 1) 45 (.int .i64 0) (.int .i64 0) := by rw [hq]; exact br8
      have hB' : Below w.heap.size w wr := by rw [hq]; exact below_dn hB8 q
      have HE := Aside0.mk (And.intro hr' hB')
      clear hlt hq hz8 hB8 bm8 br8 bd8 bf8 hd8 hc8 hxl
      have f0_ := hr'.f0
      have f1_ := hr'.f1
      have c0_ := hr'.c0
      have c1_ := hr'.c1
      clear hr' hB'
      by_cases hb0 : b < 0
      case neg =>
        have hrr := HRR.out
        rw [if_neg hb0] at hrr
        clear hb HBq
        obtain ⟨e1_, e2_⟩ := Prod.mk.inj (Option.some.inj hrr)
        subst e1_
        subst e2_
        have hb0b := decide_eq_false hb0
        clear hb0 hrr HRR
        gi_wp2
        refine bodyPost_ret (results_cell_row rfl _ _ (w.heap.size + 1) 45 #[.int .i64 0, .int .i64 b] (0, 0) _ rfl (HE.out.1.put _ _) Tryd.underlying45 rfl (by kernel_rfl)) rfl ⟨rfl, ?_⟩
        exact (HE.out.2.setCell (p := ⟨w.heap.size + 1, 0, none⟩) (Nat.le_succ _) _).setCell (p := ⟨w.heap.size + 1, 1, none⟩) (Nat.le_succ _) _
      have hb0b := decide_eq_true hb0
      have hrr := HRR.out
      rw [if_pos hb0] at hrr
      have HB0 := Aside0.mk hrr
      clear hb0 hrr hb
      gi_wp2_with (first
        | (gi_at_call 35; refine ((callsIn_wide (n := n - 1)).2 (top_Bug.calls _ _ l0 _ _ l1 wg r1 r2 _ (Kd.C_below HR0.out HE.out.2) HC0.out (Kd.C_below HR1.out HE.out.2) HC1.out HB0.out)).mono ?_; rintro e w9 ⟨rfl, hb9⟩; have hr9 : Boxed2 w9 (w.heap.size + 1) 45 (.int .i64 0) (.int .i64 0) := (hb9.block _ HE.out.1.lt).trans HE.out.1; have HE9 := Aside0.mk (And.intro hr9 (HE.out.2.trans (hb9.mono HE.out.2.size))); have f90 := hr9.f0; have f91 := hr9.f1; have c90 := hr9.c0; have c91 := hr9.c1; clear hr9 hb9))
      refine bodyPost_ret (results_cell_row rfl _ _ (w.heap.size + 1) 45 #[.int .i64 r1, .int .i64 r2] (0, 0) _ rfl (HE9.out.1.put _ _) Tryd.underlying45 rfl (by kernel_rfl)) rfl ⟨rfl, ?_⟩
      exact (HE9.out.2.setCell (p := ⟨w.heap.size + 1, 0, none⟩) (Nat.le_succ _) _).setCell (p := ⟨w.heap.size + 1, 1, none⟩) (Nat.le_succ _) _
    have hltb := decide_eq_true hlt
    have hx0 : 0 ≤ x := HX.out.1
    obtain ⟨az', e9, g9⟩ := Kd.at_int hz8 x hx0 hlt
    cases e9
    have g9' : wr.cell? (az.add x.toNat) = some (.int .i64 (rd sz x)) := by rw [hq]; exact g9
    have cf : wr.cell? ⟨W6a.heap.size, 0, none⟩ = some (.func (.func 31) #[] #[.pointer (some ⟨w6.heap.size, 0, none⟩), .pointer (some ⟨w.heap.size, 0, none⟩)]) := by rw [hq]; exact bf8.cell
    have HQ := Aside0.mk (fun k => (open_calls (wr.drewN k) w6.heap.size w.heap.size d l1 Ad cd (some am) c1 (by rw [hq]; exact bd8.cell) (by rw [hq]; exact bm8.cell) (by rw [hq]; exact hd8) (by rw [hq]; exact hc8) x hx0 (by have := HM.out.2.2.2.2.1; omega) (by have := HM.out.2.2.1; omega)).mono (R' := fun e W' => e = .returned (.bool (openB d l1 x)) ∧ ∃ m, W' = (wr.drewN k).drewN m) (fun e W' ⟨h1, h2⟩ => ⟨h1, 0, h2⟩))
    have HF := Aside0.mk (fun (y : Int) k => (off_calls y m (wr.drewN k)).mono (R' := fun e W' => e = .returned (.int .i64 (offW y m)) ∧ ∃ q, W' = (wr.drewN k).drewN q) (fun e W' ⟨h1, h2⟩ => ⟨h1, 0, h2⟩))
    have HK := Aside0.mk (And.intro hb (And.intro hq (And.intro hbr (And.intro hx0 hlt))))
    have hw1 : wrap64 (x + 1) = x + 1 := by have := HM.out.2.2.2.1; unfold wrap64; omega
    have HW := Aside0.mk hw1
    have hbx : bestH sz d l1 m (x + 1).toNat = if openB d l1 x = true ∧ (b < 0 ∨ offW (rd sz x) m < offW (rd sz b) m) then x else b := by
      rw [show (x + 1).toNat = x.toNat + 1 by omega, bestH, ← hb, show ((x.toNat : Nat) : Int) = x by omega]
    have HBX := Aside0.mk hbx
    have hms : l0.length - (x + 1).toNat < l0.length - x.toNat := by omega
    have HMS := Aside0.mk hms
    have hx9 : 0 ≤ x + 1 ∧ x + 1 ≤ (l0.length : Int) := by omega
    have HX9 := Aside0.mk hx9
    clear hb hq hbr hw1 hbx hms hx9 hz8 hB8 bm8 br8 bd8 bf8 hd8 hc8 g9
    replace hlt := eq_true hlt
    replace hx0 := eq_true hx0
    cases ho : openB d l1 x with
    | false =>
      rw [ho] at HQ HBX
      clear ho
      gi_wp2
      refine wpIn_region_quiet_lit rfl hmix (by kernel_rfl) ?_
      iterate 2 (quiet_step_in (fail))
      quiet_step_in (exact CallsIn.quiet_of (callsIn_wide.2 (HQ.out _)))
      quiet_step_in (fail)
      iterate 14 (refine BigFrame.wpQuietIn_skip (fun _ _ _ _ => trivial) (by first | rfl | kernel_rfl | simp [Region.wanted, yielded]) ?_; simp only [Act.put, List.setIfInBounds_toArray, List.set_cons_succ, List.set_cons_zero])
      quiet_step_in (fail)
      refine wpQuietIn_nil ?_
      intro _ hw'
      obtain ⟨nq, hw''⟩ := hw'
      subst hw''
      gi_wp2
      rw [HW.out]
      exact ⟨⟨b, x + 1, rfl, rfl, ⟨HX9.out⟩, ⟨by rw [HBX.out]; simp, q + nq, by rw [HK.out.2.1]; exact World.drewN_drewN _ _ _⟩⟩, by simp only [intOf]; exact HMS.out⟩
    | true =>
      rw [ho] at HQ HBX
      clear ho
      by_cases hb0 : b < 0
      case pos =>
        have hb0b := decide_eq_true hb0
        have HB0 := Aside0.mk hb0
        clear hb0
        gi_wp2
        refine wpIn_region_quiet_lit rfl hmix (by kernel_rfl) ?_
        iterate 2 (quiet_step_in (fail))
        quiet_step_in (exact CallsIn.quiet_of (callsIn_wide.2 (HQ.out _)))
        iterate 4 (quiet_step_in (fail))
        iterate 10 (refine BigFrame.wpQuietIn_skip (fun _ _ _ _ => trivial) (by first | rfl | kernel_rfl | simp [Region.wanted, yielded]) ?_; simp only [Act.put, List.setIfInBounds_toArray, List.set_cons_succ, List.set_cons_zero])
        iterate 2 (quiet_step_in (fail))
        refine wpQuietIn_nil ?_
        intro _ hw'
        obtain ⟨nq, hw''⟩ := hw'
        subst hw''
        gi_wp2
        rw [HW.out]
        exact ⟨⟨x, x + 1, rfl, rfl, ⟨HX9.out⟩, ⟨by rw [HBX.out]; simp [HB0.out], q + nq, by rw [HK.out.2.1]; exact World.drewN_drewN _ _ _⟩⟩, by simp only [intOf]; exact HMS.out⟩
      have hb0b := decide_eq_false hb0
      have hb1 : 0 ≤ b := by omega
      have hb2 : b < (l0.length : Int) := by have := HK.out.2.2.1.2; have := HX.out; omega
      obtain ⟨az'', e9, g10⟩ := Kd.at_int HZ.out.1 b hb1 hb2
      cases e9
      have g10' : wr.cell? (az.add b.toNat) = some (.int .i64 (rd sz b)) := by rw [HK.out.2.1]; exact g10
      have HB0 := Aside0.mk hb0
      clear hb0 g10
      replace hb1 := eq_true hb1
      replace hb2 := eq_true hb2
      obtain ⟨o1, ho1⟩ : ∃ o1, offW (rd sz x) m = o1 := ⟨_, rfl⟩
      obtain ⟨o2, ho2⟩ : ∃ o2, offW (rd sz b) m = o2 := ⟨_, rfl⟩
      have H1 := Aside0.mk (fun k => HF.out (rd sz x) k)
      have H2 := Aside0.mk (fun k => HF.out (rd sz b) k)
      rw [ho1] at H1 HBX
      rw [ho2] at H2 HBX
      by_cases hoo : o1 < o2
      case pos =>
        have hoob := decide_eq_true hoo
        have HOO := Aside0.mk hoo
        clear hoo ho1 ho2
        gi_wp2
        refine wpIn_region_quiet_lit rfl hmix (by kernel_rfl) ?_
        iterate 2 (quiet_step_in (fail))
        quiet_step_in (exact CallsIn.quiet_of (callsIn_wide.2 (HQ.out _)))
        iterate 6 (quiet_step_in (fail))
        quiet_step_in (exact CallsIn.quiet_of (callsIn_wide.2 (H1.out _)))
        iterate 5 (quiet_step_in (fail))
        quiet_step_in (exact CallsIn.quiet_of (callsIn_wide.2 (H2.out _)))
        iterate 3 (quiet_step_in (fail))
        refine wpQuietIn_nil ?_
        intro _ hw'
        obtain ⟨nq, hw''⟩ := hw'
        subst hw''
        gi_wp2
        rw [HW.out]
        exact ⟨⟨x, x + 1, rfl, rfl, ⟨HX9.out⟩, ⟨by rw [HBX.out]; simp [HOO.out], q + nq, by rw [HK.out.2.1]; exact World.drewN_drewN _ _ _⟩⟩, by simp only [intOf]; exact HMS.out⟩
      have hoob := decide_eq_false hoo
      have HOO := Aside0.mk hoo
      clear hoo ho1 ho2
      gi_wp2
      refine wpIn_region_quiet_lit rfl hmix (by kernel_rfl) ?_
      iterate 2 (quiet_step_in (fail))
      quiet_step_in (exact CallsIn.quiet_of (callsIn_wide.2 (HQ.out _)))
      iterate 6 (quiet_step_in (fail))
      quiet_step_in (exact CallsIn.quiet_of (callsIn_wide.2 (H1.out _)))
      iterate 5 (quiet_step_in (fail))
      quiet_step_in (exact CallsIn.quiet_of (callsIn_wide.2 (H2.out _)))
      iterate 3 (quiet_step_in (fail))
      refine wpQuietIn_nil ?_
      intro _ hw'
      obtain ⟨nq, hw''⟩ := hw'
      subst hw''
      gi_wp2
      rw [HW.out]
      exact ⟨⟨b, x + 1, rfl, rfl, ⟨HX9.out⟩, ⟨by rw [HBX.out, if_neg (fun h => by have h1 := HB0.out; have h2 := HOO.out; have h3 := h.2; omega)], q + nq, by rw [HK.out.2.1]; exact World.drewN_drewN _ _ _⟩⟩, by simp only [intOf]; exact HMS.out⟩
end
set_option maxHeartbeats 8000000 in
set_option maxRecDepth 100000 in
theorem half_Ask.calls (k : Nat) (A0 : Option Addr) (c0 : Nat) (l0 : List (S41)) (A1 : Option Addr) (c1 : Nat) (l1 : List Int) (r1 : Int) (r2 : Int) (w : World) (hr0 : Kd.C k41 w A0 l0.length l0) (hc0 : l0.length ≤ c0) (hr1 : Kd.C (Kd.int .i64) w A1 l1.length l1) (hc1 : l1.length ≤ c1) (h : half_Ask.f k l0 l1 = some (r1, r2)) (hG : GOK w) :
    Calls Tryd.prog 25 #[.slice A0 l0.length c0, .slice A1 l1.length c1] w fun e w' => e = .returned (.agg #[.int .i64 r1, .int .i64 r2]) ∧ Below w.heap.size w w' := by
  unfold half_Ask.f at h
  by_cases cg : 0 < l0.length ∧ l0.length ≤ 512 ∧ l1.length = l0.length ∧ parB l0 = true
  case neg =>
    rw [if_neg cg] at h; cases h

  rw [if_pos cg] at h
  by_cases c2 : rd l1 0 = 2
  case pos =>
    rw [if_pos c2] at h
    obtain ⟨wg, hL, h⟩ := Option.bind_eq_some_iff.mp h
    obtain ⟨d, hD, h⟩ := Option.bind_eq_some_iff.mp h
    by_cases cw : 0 ≤ wg ∧ wg < (l0.length : Int) ∧ d.length = l0.length
    case neg =>
      rw [if_neg cw] at h; cases h
    rw [if_pos cw] at h
    exact (callsIn_wide (n := 4)).1 (half_Ask.inW 4 (by omega) k A0 c0 l0 A1 c1 l1 wg d r1 r2 w hr0 hc0 hr1 hc1 c2 cg.1 cg.2.1 cg.2.2.1 cg.2.2.2 hL hD cw.1 cw.2.1 cw.2.2 h)
  rw [if_neg c2] at h
  obtain ⟨am, e, g⟩ := Kd.at_int hr1 0 (by omega) (by omega)
  cases e
  have HR0 := Aside0.mk hr0
  have HC0 := Aside0.mk hc0
  have HR1 := Aside0.mk hr1
  have HC1 := Aside0.mk hc1
  have HA := Aside0.mk h
  have hB2 : Below w.heap.size w ((w.alloc (.cells #[.slice (some am) l1.length c1] 30)).alloc (.cells #[.int .i64 0, .int .i64 0] 45)) := ((Below.refl _ w).alloc (Nat.le_refl _) _).alloc (by simp) _
  have bx0 := ((Boxed.new w 30 (.slice (some am) l1.length c1)).alloc (.cells #[.int .i64 0, .int .i64 0] 45))
  have bx1 := Boxed2.new (w.alloc (.cells #[.slice (some am) l1.length c1] 30)) 45 (.int .i64 0) (.int .i64 0)
  simp only [World.size_alloc] at bx1
  have g1 := (hB2.cell (World.block_lt_of_cell? w _ g)).trans g
  rw [show am.add (Int.toNat 0) = am from by cases am; rfl] at g1
  have cb := bx0.cell
  have HB2 := Aside0.mk (And.intro hB2 (And.intro bx0 bx1))
  have hpos : ((0 : Int) < (l1.length : Int)) = True := eq_true (by omega)
  have hposn : (0 < l1.length) = True := eq_true (by omega)
  have hne : (rd l1 0 != 2) = true := bne_iff_ne.2 c2
  have hu := Tryd.underlying45
  obtain ⟨W2, hW2⟩ : ∃ W2, (w.alloc (.cells #[.slice (some am) l1.length c1] 30)).alloc (.cells #[.int .i64 0, .int .i64 0] 45) = W2 := ⟨_, rfl⟩
  rw [hW2] at g1 cb HB2
  have HG := Aside0.mk hG
  clear hr0 hc0 hr1 hc1 h g bx0 bx1 hB2 cg c2 hG
  go_enter Tryd.func25, Tryd.ntmps25
  go_wp2_with (first
    | (go_at_call 26; (refine (top_Ask.calls k _ _ l0 _ _ l1 r1 r2 _ (Kd.C_below HR0.out HB2.out.1) HC0.out (Kd.C_below HR1.out HB2.out.1) HC1.out HA.out).mono ?_); rintro e w9 ⟨rfl, hb9⟩; have hr9 : Boxed2 w9 (w.heap.size + 1) 45 (.int .i64 0) (.int .i64 0) := (hb9.block _ HB2.out.2.2.lt).trans HB2.out.2.2; have HE9 := Aside0.mk (And.intro hr9 (HB2.out.1.trans (hb9.mono HB2.out.1.size))); have f90 := hr9.f0; have f91 := hr9.f1; have c90 := hr9.c0; have c91 := hr9.c1; clear hr9 hb9))
  refine bodyPost_ret (results_cell_row rfl _ _ (w.heap.size + 1) 45 #[.int .i64 r1, .int .i64 r2] (0, 0) _ rfl (HE9.out.1.put _ _) Tryd.underlying45 rfl (by kernel_rfl)) rfl ⟨rfl, ?_⟩
  exact (HE9.out.2.setCell (p := ⟨w.heap.size + 1, 0, none⟩) (Nat.le_succ _) _).setCell (p := ⟨w.heap.size + 1, 1, none⟩) (Nat.le_succ _) _
end Go.Proofs.YtbnljapgnfmmoaaDoor.G
end
section
/- What package half answers, as plain functions. -/
namespace Go.Proofs.YtbnljapgnfmmoaaDoor.G
open Go.RowKit Go.Proofs.YtbnljapgnfmmoaaDoorW.PrintWords Go.Proofs.YtbnljapgnfmmoaaDoorW.PrintLast Go.Proofs.YtbnljapgnfmmoaaDoorW.PrintMore
set_option linter.unusedVariables false
set_option linter.unusedSimpArgs false
def lastM (ms : List Int) : Nat → Int
  | 0 => 0
  | n + 1 => if rd ms (n : Int) = 2 then (n : Int) else lastM ms n
theorem lastM_range (ms : List Int) : ∀ n : Nat, 0 < n → 0 ≤ lastM ms n ∧ lastM ms n < (n : Int)
  | 0, h => absurd h (by omega)
  | n + 1, _ => by
    rw [lastM]
    split
    · omega
    · rcases Nat.eq_zero_or_pos n with c | c
      · subst c; show (0 : Int) ≤ 0 ∧ (0 : Int) < _; omega
      · have := lastM_range ms n c; omega
theorem last_half_l0 (ms : List Int) (hl : ms.length ≤ 9223372036854775806) : ∀ n i : Nat, i + n = ms.length → Ev (fun k => half_last.l0 k (lastM ms i) ms (ms.length : Int) (i : Int)) (lastM ms ms.length) := by
  intro n
  induction n with
  | zero =>
    intro i hi
    obtain rfl : i = ms.length := by omega
    refine Ev.step (f := fun _ => some (lastM ms ms.length)) (fun k => ?_) (Ev.now _)
    rw [half_last.l0, if_neg (by omega)]
  | succ n ih =>
    intro i hi
    have hw : wrap64 ((i : Int) + 1) = ((i + 1 : Nat) : Int) := by rw [w64 (by omega) (by omega)]; omega
    refine Ev.step (f := fun k => half_last.l0 k (lastM ms (i + 1)) ms (ms.length : Int) ((i + 1 : Nat) : Int)) (fun k => ?_) (ih (i + 1) (by omega))
    rw [half_last.l0, if_pos (by omega), if_pos (by omega), if_pos (by omega), hw, lastM]
    by_cases c : rd ms (i : Int) = 2
    · rw [if_pos c, if_pos c]
    · rw [if_neg c, if_neg c]
theorem last_half_ev (ms : List Int) (hl : ms.length ≤ 9223372036854775806) : Ev (fun k => half_last.f k ms) (lastM ms ms.length) := last_half_l0 ms hl ms.length 0 (by omega)
/-- which nodes are in doubt, up to place n -/
def dbt (ns : List Nd) (ms : List Int) (w : Nat) : Nat → List Bool
  | 0 => List.replicate ns.length false
  | n + 1 => if n ≤ w then dbt ns ms w n else
    (dbt ns ms w n).set n ((decide (pa ns n = (w : Int)) || rdOf false (dbt ns ms w n) (pa ns n)) && (rd ms (n : Int) != 1))
theorem dbt_len (ns : List Nd) (ms : List Int) (w : Nat) : ∀ n : Nat, (dbt ns ms w n).length = ns.length
  | 0 => List.length_replicate
  | n + 1 => by
    rw [dbt]
    split
    · exact dbt_len ns ms w n
    · rw [List.length_set]; exact dbt_len ns ms w n
theorem doubts_l0 {ns : List Nd} {ms : List Int} (h : marksS ns ms = true) (w : Nat) : ∀ n i : Nat, w < i → i + n = ns.length → Ev (fun k => half_doubts.l0 k ns ms (w : Int) (dbt ns ms w i) (i : Int)) (dbt ns ms w ns.length) := by
  obtain ⟨hm, hl, _⟩ := marksS_spec h
  have hlen := mayT_len hm
  intro n
  induction n with
  | zero =>
    intro i hw hi
    obtain rfl : i = ns.length := by omega
    refine Ev.step (f := fun _ => some (dbt ns ms w ns.length)) (fun k => ?_) (Ev.now _)
    rw [half_doubts.l0, if_neg (by omega)]
  | succ n ih =>
    intro i hwi hi
    have hp := mayT_pa hm i (by omega)
    have hw : wrap64 ((i : Int) + 1) = ((i + 1 : Nat) : Int) := by rw [w64 (by omega) (by omega)]; omega
    have hdl := dbt_len ns ms w i
    have hp' : (rd_T41 ns (i : Int)).f1 = pa ns i := rfl
    refine Ev.step (f := fun k => half_doubts.l0 k ns ms (w : Int) (dbt ns ms w (i + 1)) ((i + 1 : Nat) : Int)) (fun k => ?_) (ih (i + 1) (by omega) (by omega))
    rw [half_doubts.l0, if_pos (by omega), if_pos (by omega), hw, dbt, if_neg (show ¬ i ≤ w by omega), hp', Int.toNat_natCast]
    by_cases c : pa ns i = (w : Int)
    · rw [if_pos c, if_pos (by omega), if_pos (by omega), decide_eq_true c, Bool.true_or, Bool.true_and]
    · rw [if_neg c, if_pos (by omega), if_pos (by omega), decide_eq_false c, Bool.false_or]
      cases hb : rdOf false (dbt ns ms w i) (pa ns i) with
      | true => rw [if_pos rfl, if_pos (by omega), if_pos (by omega), Bool.true_and]
      | false => rw [if_neg Bool.false_ne_true, if_pos (by omega), Bool.false_and]
theorem dbt_low (ns : List Nd) (ms : List Int) (w : Nat) : ∀ n : Nat, n ≤ w + 1 → dbt ns ms w n = List.replicate ns.length false
  | 0, _ => rfl
  | n + 1, h => by rw [dbt, if_pos (by omega)]; exact dbt_low ns ms w n (by omega)
theorem doubts_ev {ns : List Nd} {ms : List Int} (h : marksS ns ms = true) (w : Nat) (hw : w < ns.length) : Ev (fun k => half_doubts.f k ns ms (w : Int)) (dbt ns ms w ns.length) := by
  obtain ⟨hm, hl, _⟩ := marksS_spec h
  have hlen := mayT_len hm
  have hw1 : wrap64 ((w : Int) + 1) = ((w + 1 : Nat) : Int) := by rw [w64 (by omega) (by omega)]; omega
  unfold half_doubts.f
  have g1 : (0 : Int) ≤ (ns.length : Int) := by omega
  have g2 : ns.length ≤ 281474976710656 := by omega
  simp only [if_pos g1, hw1, Int.toNat_natCast]
  simp only [if_pos g2]
  have := doubts_l0 h w (ns.length - (w + 1)) (w + 1) (by omega) (by omega)
  rw [dbt_low ns ms w (w + 1) (Nat.le_refl _)] at this
  exact this
theorem parB_of {ns : List Nd} (h : mayT ns = true) : parB ns = true := by
  unfold parB
  refine List.all_eq_true.2 fun i hi => decide_eq_true ?_
  have := mayT_pa h i (List.mem_range.1 hi)
  show (0 ≤ pa ns i ∧ pa ns i < (i : Int)) ∨ ((i : Int) = 0 ∧ pa ns i = -1)
  omega
def askH (ns : List Nd) (ms : List Int) : Int × Int :=
  if rd ms 0 = 2 then
    (if bestH (szH ns (dbt ns ms (lastM ms ms.length).toNat ns.length) ms) (dbt ns ms (lastM ms ms.length).toNat ns.length) ms (rd (szH ns (dbt ns ms (lastM ms ms.length).toNat ns.length) ms) (lastM ms ms.length)) ns.length < 0 then bugS ns ms (lastM ms ms.length)
      else (0, bestH (szH ns (dbt ns ms (lastM ms ms.length).toNat ns.length) ms) (dbt ns ms (lastM ms ms.length).toNat ns.length) ms (rd (szH ns (dbt ns ms (lastM ms ms.length).toNat ns.length) ms) (lastM ms ms.length)) ns.length))
  else askT ns ms
theorem askH_ev {ns : List Nd} {ms : List Int} (h : marksS ns ms = true) : Ev (fun k => half_Ask.f k ns ms) (askH ns ms) := by
  obtain ⟨hm, hl, _⟩ := marksS_spec h
  have hlen := mayT_len hm
  unfold half_Ask.f askH
  have cg : 0 < ns.length ∧ ns.length ≤ 512 ∧ ms.length = ns.length ∧ parB ns = true := ⟨hlen.1, hlen.2, hl, parB_of hm⟩
  simp only [if_pos cg]
  by_cases c : rd ms 0 = 2
  · simp only [if_pos c]
    have hr := lastM_range ms ms.length (by omega)
    refine Ev.bind (last_half_ev ms (by omega)) ?_
    obtain ⟨w, hw⟩ : ∃ w : Nat, lastM ms ms.length = (w : Int) := ⟨(lastM ms ms.length).toNat, by omega⟩
    rw [hw]
    rw [hw] at hr
    refine Ev.bind (doubts_ev h w (by omega)) ?_
    have cw : 0 ≤ (w : Int) ∧ (w : Int) < (ns.length : Int) ∧ (dbt ns ms w ns.length).length = ns.length := ⟨by omega, by omega, dbt_len ns ms w ns.length⟩
    simp only [if_pos cw, Int.toNat_natCast]
    by_cases cb : bestH (szH ns (dbt ns ms w ns.length) ms) (dbt ns ms w ns.length) ms (rd (szH ns (dbt ns ms w ns.length) ms) (w : Int)) ns.length < 0
    · simp only [if_pos cb, bug_eq h (w : Int) (by omega) (by omega)]; exact Ev.now _
    · simp only [if_neg cb]; exact Ev.now _
  · simp only [if_neg c]
    exact ask_ev h
end Go.Proofs.YtbnljapgnfmmoaaDoor.G
end
section
/- What is known of the nodes in doubt. -/
namespace Go.Proofs.YtbnljapgnfmmoaaDoor.G
open Go.RowKit Go.Proofs.YtbnljapgnfmmoaaDoorW.PrintWords Go.Proofs.YtbnljapgnfmmoaaDoorW.PrintLast Go.Proofs.YtbnljapgnfmmoaaDoorW.PrintMore
set_option linter.unusedVariables false
set_option linter.unusedSimpArgs false
theorem bestH_spec (sz : List Int) (d : List Bool) (ms : List Int) (m : Int) : ∀ n : Nat, 0 ≤ bestH sz d ms m n → openB d ms (bestH sz d ms m n) = true
  | 0, h => absurd h (by show ¬ (0 : Int) ≤ -1; omega)
  | n + 1, h => by
    rw [bestH] at h ⊢
    by_cases c : openB d ms (n : Int) = true ∧ (bestH sz d ms m n < 0 ∨ offW (rd sz (n : Int)) m < offW (rd sz (bestH sz d ms m n)) m)
    · rw [if_pos c]; exact c.1
    · rw [if_neg c] at h ⊢
      exact bestH_spec sz d ms m n h
end Go.Proofs.YtbnljapgnfmmoaaDoor.G
end
section
namespace Go.Proofs.YtbnljapgnfmmoaaDoor.G
open Go.RowKit
set_option linter.unusedVariables false
set_option linter.unusedSimpArgs false

end Go.Proofs.YtbnljapgnfmmoaaDoor.G
end
section
/- Sizes over a trail, as sums (for a seat that has tree.Sizes, but not tree.Size). -/
namespace Go.Proofs.YtbnljapgnfmmoaaDoor.G
open Go.RowKit Go.Proofs.YtbnljapgnfmmoaaDoorW.PrintWords Go.Proofs.YtbnljapgnfmmoaaDoorW.PrintLast Go.Proofs.YtbnljapgnfmmoaaDoorW.PrintMore
set_option linter.unusedVariables false
set_option linter.unusedSimpArgs false
def ps (ns : List Nd) : List Int := ns.map (·.f1)
def one (p : Int) : Nd := ⟨0, p, [], (⟨#[49]⟩ : ByteArray)⟩
end Go.Proofs.YtbnljapgnfmmoaaDoor.G
end
section
/- The document's own answers of chapters 18 and 19, for trails and marks that may be, are the program's. -/

namespace Go.Proofs.YtbnljapgnfmmoaaDoor.G
open Go.RowKit Go.Proofs.YtbnljapgnfmmoaaDoorW.PrintWords Go.Proofs.YtbnljapgnfmmoaaDoorW.PrintLast Go.Proofs.YtbnljapgnfmmoaaDoorW.PrintMore
set_option linter.unusedVariables false
set_option linter.unusedSimpArgs false
end Go.Proofs.YtbnljapgnfmmoaaDoor.G
end
section
/- A session by its fields, as the cards open it. -/
namespace Go.Proofs.YtbnljapgnfmmoaaDoor.G
open Go.RowKit Go.Proofs.YtbnljapgnfmmoaaDoorW.PrintWords Go.Proofs.YtbnljapgnfmmoaaDoorW.PrintLast Go.Proofs.YtbnljapgnfmmoaaDoorW.PrintMore
end Go.Proofs.YtbnljapgnfmmoaaDoor.G
end
section
-- Laid by the session's own driver gp.py over the kit's printer. Not trusted: Lean checks it.
namespace Go.Proofs.YtbnljapgnfmmoaaDoor.G
open Go.RowKit Go.Proofs.YtbnljapgnfmmoaaDoorW.PrintWords Go.Proofs.YtbnljapgnfmmoaaDoorW.PrintLast Go.Proofs.YtbnljapgnfmmoaaDoorW.PrintMore
attribute [local go_sem] max2_int min2_int max_two min_two max_three min_three max_four min_four   -- for this text's walks alone
set_option linter.unusedVariables false
set_option linter.unusedSimpArgs false

/-! ### sleuthlaw22_some: function 5 -/
def sleuthlaw22_some.f  : Option ((List (S41))) := some (([(⟨0, (-1), ([] : List ByteArray), (⟨#[57]⟩ : ByteArray)⟩ : S41), (⟨1, 0, (([(⟨#[64, 55, 40, 95, 32, 52, 41]⟩ : ByteArray), (⟨#[53]⟩ : ByteArray)] : List ByteArray)), (⟨#[57]⟩ : ByteArray)⟩ : S41), (⟨2, 0, ([] : List ByteArray), (⟨#[33]⟩ : ByteArray)⟩ : S41), (⟨1, 1, (([(⟨#[49]⟩ : ByteArray), (⟨#[95]⟩ : ByteArray)] : List ByteArray)), (⟨#[95]⟩ : ByteArray)⟩ : S41), (⟨1, 2, (([(⟨#[49]⟩ : ByteArray), (⟨#[95]⟩ : ByteArray)] : List ByteArray)), (⟨#[95]⟩ : ByteArray)⟩ : S41)] : List (S41)))
set_option maxHeartbeats 8000000 in
set_option maxRecDepth 100000 in
theorem sleuthlaw22_some.calls  (r : List (S41)) (w : World) (h : sleuthlaw22_some.f  = some r) :
    Calls Tryd.prog 5 #[] w fun e w' => ∃ v0_ : Value, e = .returned (v0_) ∧ Kd.N k41 41 w' w.heap.size (fun k_ => (w.heap.size ≤ k_)) v0_ r ∧ Below w.heap.size w w' := by
  have hu41 := Tryd.underlying41
  have HB := Aside0.mk (Below.refl w.heap.size w)
  have H : (some (([(⟨0, (-1), ([] : List ByteArray), (⟨#[57]⟩ : ByteArray)⟩ : S41), (⟨1, 0, (([(⟨#[64, 55, 40, 95, 32, 52, 41]⟩ : ByteArray), (⟨#[53]⟩ : ByteArray)] : List ByteArray)), (⟨#[57]⟩ : ByteArray)⟩ : S41), (⟨2, 0, ([] : List ByteArray), (⟨#[33]⟩ : ByteArray)⟩ : S41), (⟨1, 1, (([(⟨#[49]⟩ : ByteArray), (⟨#[95]⟩ : ByteArray)] : List ByteArray)), (⟨#[95]⟩ : ByteArray)⟩ : S41), (⟨1, 2, (([(⟨#[49]⟩ : ByteArray), (⟨#[95]⟩ : ByteArray)] : List ByteArray)), (⟨#[95]⟩ : ByteArray)⟩ : S41)] : List (S41)))) = some r := h
  clear h
  obtain ⟨y101, hy101⟩ : ∃ y_ : List ByteArray, y_ = (([(⟨#[64, 55, 40, 95, 32, 52, 41]⟩ : ByteArray), (⟨#[53]⟩ : ByteArray)] : List ByteArray)) := ⟨_, rfl⟩
  replace H : (some (([(⟨0, (-1), ([] : List ByteArray), (⟨#[57]⟩ : ByteArray)⟩ : S41), (⟨1, 0, y101, (⟨#[57]⟩ : ByteArray)⟩ : S41), (⟨2, 0, ([] : List ByteArray), (⟨#[33]⟩ : ByteArray)⟩ : S41), (⟨1, 1, (([(⟨#[49]⟩ : ByteArray), (⟨#[95]⟩ : ByteArray)] : List ByteArray)), (⟨#[95]⟩ : ByteArray)⟩ : S41), (⟨1, 2, (([(⟨#[49]⟩ : ByteArray), (⟨#[95]⟩ : ByteArray)] : List ByteArray)), (⟨#[95]⟩ : ByteArray)⟩ : S41)] : List (S41)))) = some r := by first | (rw [hy101]; with_reducible exact H) | (have H2_ := (Option.bind_some _ _).symm.trans H; rw [hy101]; with_reducible exact H2_) | (have H2_ := (Option.bind_some _ _).symm.trans H; with_reducible exact H2_) | with_reducible exact H | (rw [hy101]; exact H) | exact H
  have Ny101 := Aside0.mk hy101
  clear hy101
  obtain ⟨y104, hy104⟩ : ∃ y_ : List ByteArray, y_ = (([(⟨#[49]⟩ : ByteArray), (⟨#[95]⟩ : ByteArray)] : List ByteArray)) := ⟨_, rfl⟩
  replace H : (some (([(⟨0, (-1), ([] : List ByteArray), (⟨#[57]⟩ : ByteArray)⟩ : S41), (⟨1, 0, y101, (⟨#[57]⟩ : ByteArray)⟩ : S41), (⟨2, 0, ([] : List ByteArray), (⟨#[33]⟩ : ByteArray)⟩ : S41), (⟨1, 1, y104, (⟨#[95]⟩ : ByteArray)⟩ : S41), (⟨1, 2, (([(⟨#[49]⟩ : ByteArray), (⟨#[95]⟩ : ByteArray)] : List ByteArray)), (⟨#[95]⟩ : ByteArray)⟩ : S41)] : List (S41)))) = some r := by first | (rw [hy104]; with_reducible exact H) | (have H2_ := (Option.bind_some _ _).symm.trans H; rw [hy104]; with_reducible exact H2_) | (have H2_ := (Option.bind_some _ _).symm.trans H; with_reducible exact H2_) | with_reducible exact H | (rw [hy104]; exact H) | exact H
  have Ny104 := Aside0.mk hy104
  clear hy104
  obtain ⟨y107, hy107⟩ : ∃ y_ : List ByteArray, y_ = (([(⟨#[49]⟩ : ByteArray), (⟨#[95]⟩ : ByteArray)] : List ByteArray)) := ⟨_, rfl⟩
  replace H : (some (([(⟨0, (-1), ([] : List ByteArray), (⟨#[57]⟩ : ByteArray)⟩ : S41), (⟨1, 0, y101, (⟨#[57]⟩ : ByteArray)⟩ : S41), (⟨2, 0, ([] : List ByteArray), (⟨#[33]⟩ : ByteArray)⟩ : S41), (⟨1, 1, y104, (⟨#[95]⟩ : ByteArray)⟩ : S41), (⟨1, 2, y107, (⟨#[95]⟩ : ByteArray)⟩ : S41)] : List (S41)))) = some r := by first | (rw [hy107]; with_reducible exact H) | (have H2_ := (Option.bind_some _ _).symm.trans H; rw [hy107]; with_reducible exact H2_) | (have H2_ := (Option.bind_some _ _).symm.trans H; with_reducible exact H2_) | with_reducible exact H | (rw [hy107]; exact H) | exact H
  have Ny107 := Aside0.mk hy107
  clear hy107
  obtain ⟨y110, hy110⟩ : ∃ y_ : List (S41), y_ = (([(⟨0, (-1), ([] : List ByteArray), (⟨#[57]⟩ : ByteArray)⟩ : S41), (⟨1, 0, y101, (⟨#[57]⟩ : ByteArray)⟩ : S41), (⟨2, 0, ([] : List ByteArray), (⟨#[33]⟩ : ByteArray)⟩ : S41), (⟨1, 1, y104, (⟨#[95]⟩ : ByteArray)⟩ : S41), (⟨1, 2, y107, (⟨#[95]⟩ : ByteArray)⟩ : S41)] : List (S41))) := ⟨_, rfl⟩
  replace H : (some y110) = some r := by first | (rw [hy110]; with_reducible exact H) | (have H2_ := (Option.bind_some _ _).symm.trans H; rw [hy110]; with_reducible exact H2_) | (have H2_ := (Option.bind_some _ _).symm.trans H; with_reducible exact H2_) | with_reducible exact H | (rw [hy110]; exact H) | exact H
  have Ny110 := Aside0.mk hy110
  clear hy110
  obtain rfl := Option.some.inj H
  go_enter Tryd.func5, Tryd.ntmps5
  go_wp2_with (first | ((with_reducible refine gate_dst (N := 2) rfl ?_); refine Kd.R_lit Kd.string _ 9 ?hg (N := 2) ?hd (xs := ([(⟨#[64, 55, 40, 95, 32, 52, 41]⟩ : ByteArray), (⟨#[53]⟩ : ByteArray)] : List ByteArray)) (inner := [.string (⟨#[64, 55, 40, 95, 32, 52, 41]⟩ : ByteArray), .string (⟨#[53]⟩ : ByteArray)]) (ok := fun _ => True) (okp := fun _ => True) ?hr ?hp (fun _ hk => hk) trivial (Below.refl _ _) (Nat.le_refl _) (by simp) ?_; (case hd => rfl); (case hg => rfl); (case hr => first | (go_simp; done) | (go_simp; rfl)); (case hp => exact (Reps.one (show Kd.M Kd.string _ _ _ (⟨#[64, 55, 40, 95, 32, 52, 41]⟩ : ByteArray) [.string (⟨#[64, 55, 40, 95, 32, 52, 41]⟩ : ByteArray)] from rfl) (Reps.one (show Kd.M Kd.string _ _ _ (⟨#[53]⟩ : ByteArray) [.string (⟨#[53]⟩ : ByteArray)] from rfl) (Reps.none _ _)))); intro v102 w1 ho2 hb hg_ hnew_; clear hg_ hnew_; (first | rw [← Ny101.out] at ho2 | (simp only [Int.reduceToNat] at ho2; rw [← Ny101.out] at ho2)); have n0_ := Aside0.mk (Kd.R_lower (Kd.R_newM (M := fun k_ => (w.heap.size ≤ k_)) ho2 hS_ (fun k_ h_ => h_)) hS_); have n1_ := Aside0.mk (below_step hB_ hb); clear HB; have HO103 := n0_; have HB := n1_; clear n0_ n1_; clear hb ho2; obtain ⟨Ao3, co3, eo3⟩ := Kd.R_slice HO103.out; subst eo3) | ((with_reducible refine gate_dst (N := 5) rfl ?_); refine Kd.R_lit Kd.string _ 9 ?hg (N := 5) ?hd (xs := ([(⟨#[49]⟩ : ByteArray), (⟨#[95]⟩ : ByteArray)] : List ByteArray)) (inner := [.string (⟨#[49]⟩ : ByteArray), .string (⟨#[95]⟩ : ByteArray)]) (ok := fun _ => True) (okp := fun _ => True) ?hr ?hp (fun _ hk => hk) trivial (Below.refl _ _) (Nat.le_refl _) (by simp) ?_; (case hd => rfl); (case hg => rfl); (case hr => first | (go_simp; done) | (go_simp; rfl)); (case hp => exact (Reps.one (show Kd.M Kd.string _ _ _ (⟨#[49]⟩ : ByteArray) [.string (⟨#[49]⟩ : ByteArray)] from rfl) (Reps.one (show Kd.M Kd.string _ _ _ (⟨#[95]⟩ : ByteArray) [.string (⟨#[95]⟩ : ByteArray)] from rfl) (Reps.none _ _)))); intro v105 w4 ho5 hb hg_ hnew_; clear hg_ hnew_; (first | rw [← Ny104.out] at ho5 | (simp only [Int.reduceToNat] at ho5; rw [← Ny104.out] at ho5)); have n0_ := Aside0.mk (Kd.R_elder' (hR_ HO103.out) (Kd.R_base ho5) hb); have n1_ := Aside0.mk (Kd.R_lower (Kd.R_new' (Kd.R_newM (M := fun k_ => (w.heap.size ≤ k_)) ho5 hS_ (fun k_ h_ => h_)) (Kd.R_lt (hR_ HO103.out))) hS_); have n2_ := Aside0.mk (below_step hB_ hb); clear HO103 HB; have HO103 := n0_; have HO106 := n1_; have HB := n2_; clear n0_ n1_ n2_; clear hb ho5; obtain ⟨Ao6, co6, eo6⟩ := Kd.R_slice HO106.out; subst eo6) | ((with_reducible refine gate_dst (N := 7) rfl ?_); refine Kd.R_lit Kd.string _ 9 ?hg (N := 7) ?hd (xs := ([(⟨#[49]⟩ : ByteArray), (⟨#[95]⟩ : ByteArray)] : List ByteArray)) (inner := [.string (⟨#[49]⟩ : ByteArray), .string (⟨#[95]⟩ : ByteArray)]) (ok := fun _ => True) (okp := fun _ => True) ?hr ?hp (fun _ hk => hk) trivial (Below.refl _ _) (Nat.le_refl _) (by simp) ?_; (case hd => rfl); (case hg => rfl); (case hr => first | (go_simp; done) | (go_simp; rfl)); (case hp => exact (Reps.one (show Kd.M Kd.string _ _ _ (⟨#[49]⟩ : ByteArray) [.string (⟨#[49]⟩ : ByteArray)] from rfl) (Reps.one (show Kd.M Kd.string _ _ _ (⟨#[95]⟩ : ByteArray) [.string (⟨#[95]⟩ : ByteArray)] from rfl) (Reps.none _ _)))); intro v108 w7 ho8 hb hg_ hnew_; clear hg_ hnew_; (first | rw [← Ny107.out] at ho8 | (simp only [Int.reduceToNat] at ho8; rw [← Ny107.out] at ho8)); have n0_ := Aside0.mk (Kd.R_elder' (hR_ HO103.out) (Kd.R_base ho8) hb); have n1_ := Aside0.mk (Kd.R_elder' (hR_ HO106.out) (Kd.R_base ho8) hb); have n2_ := Aside0.mk (Kd.R_lower (Kd.R_new' (Kd.R_new' (Kd.R_newM (M := fun k_ => (w.heap.size ≤ k_)) ho8 hS_ (fun k_ h_ => h_)) (Kd.R_lt (hR_ HO103.out))) (Kd.R_lt (hR_ HO106.out))) hS_); have n3_ := Aside0.mk (below_step hB_ hb); clear HO103 HO106 HB; have HO103 := n0_; have HO106 := n1_; have HO109 := n2_; have HB := n3_; clear n0_ n1_ n2_ n3_; clear hb ho8; obtain ⟨Ao9, co9, eo9⟩ := Kd.R_slice HO109.out; subst eo9) | ((with_reducible refine gate_dst (N := 9) rfl ?_); refine Kd.N_lit k41 _ 41 ?hg (N' := 9) ?hd (xs := ([(⟨0, (-1), ([] : List ByteArray), (⟨#[57]⟩ : ByteArray)⟩ : S41), (⟨1, 0, y101, (⟨#[57]⟩ : ByteArray)⟩ : S41), (⟨2, 0, ([] : List ByteArray), (⟨#[33]⟩ : ByteArray)⟩ : S41), (⟨1, 1, y104, (⟨#[95]⟩ : ByteArray)⟩ : S41), (⟨1, 2, y107, (⟨#[95]⟩ : ByteArray)⟩ : S41)] : List (S41))) (inner := [.int .i64 0, .int .i64 (-1), .slice none 0 0, .string (⟨#[57]⟩ : ByteArray), .int .i64 1, .int .i64 0, .slice Ao3 y101.length co3, .string (⟨#[57]⟩ : ByteArray), .int .i64 2, .int .i64 0, .slice none 0 0, .string (⟨#[33]⟩ : ByteArray), .int .i64 1, .int .i64 1, .slice Ao6 y104.length co6, .string (⟨#[95]⟩ : ByteArray), .int .i64 1, .int .i64 2, .slice Ao9 y107.length co9, .string (⟨#[95]⟩ : ByteArray)]) (ok := (fun k_ => (w.heap.size ≤ k_))) (okp := (fun k_ => (w.heap.size ≤ k_))) ?hr ?hp (fun _ hk => hk) ((show ∀ k_, w7.heap.size ≤ k_ → (fun k_ => (w.heap.size ≤ k_)) k_ from fun k_ hk => (Nat.le_trans hS_ hk)) _ (Nat.le_refl _)) (Below.refl _ _) (Nat.le_refl _) (by simp) ?_; (case hd => rfl); (case hg => rfl); (case hr => first | (go_simp; done) | (go_simp; rfl)); (case hp => exact (Reps.c4 (show Kd.FK k41 _ _ (⟨0, (-1), ([] : List ByteArray), (⟨#[57]⟩ : ByteArray)⟩ : S41) [.int .i64 0, .int .i64 (-1), .slice none 0 0, .string (⟨#[57]⟩ : ByteArray)] from (k41_mkF _ _ (⟨0, (-1), ([] : List ByteArray), (⟨#[57]⟩ : ByteArray)⟩ : S41) (Nat.le_refl _) (Kd.F_nil _ _ _))) (Reps.c4 (show Kd.FK k41 _ _ (⟨1, 0, y101, (⟨#[57]⟩ : ByteArray)⟩ : S41) [.int .i64 1, .int .i64 0, .slice Ao3 y101.length co3, .string (⟨#[57]⟩ : ByteArray)] from (k41_mkF _ _ (⟨1, 0, y101, (⟨#[57]⟩ : ByteArray)⟩ : S41) (Kd.R_reads' (Kd.R_mono (ok' := (fun k_ => (w.heap.size ≤ k_))) (HO103.out) (fun k_ hk => hk.1.1.1))).2.1 (Kd.R_F (Kd.R_mono (ok' := (fun k_ => (w.heap.size ≤ k_))) (HO103.out) (fun k_ hk => hk.1.1.1))))) (Reps.c4 (show Kd.FK k41 _ _ (⟨2, 0, ([] : List ByteArray), (⟨#[33]⟩ : ByteArray)⟩ : S41) [.int .i64 2, .int .i64 0, .slice none 0 0, .string (⟨#[33]⟩ : ByteArray)] from (k41_mkF _ _ (⟨2, 0, ([] : List ByteArray), (⟨#[33]⟩ : ByteArray)⟩ : S41) (Nat.le_refl _) (Kd.F_nil _ _ _))) (Reps.c4 (show Kd.FK k41 _ _ (⟨1, 1, y104, (⟨#[95]⟩ : ByteArray)⟩ : S41) [.int .i64 1, .int .i64 1, .slice Ao6 y104.length co6, .string (⟨#[95]⟩ : ByteArray)] from (k41_mkF _ _ (⟨1, 1, y104, (⟨#[95]⟩ : ByteArray)⟩ : S41) (Kd.R_reads' (Kd.R_mono (ok' := (fun k_ => (w.heap.size ≤ k_))) (HO106.out) (fun k_ hk => hk.1.1.1))).2.1 (Kd.R_F (Kd.R_mono (ok' := (fun k_ => (w.heap.size ≤ k_))) (HO106.out) (fun k_ hk => hk.1.1.1))))) (Reps.c4 (show Kd.FK k41 _ _ (⟨1, 2, y107, (⟨#[95]⟩ : ByteArray)⟩ : S41) [.int .i64 1, .int .i64 2, .slice Ao9 y107.length co9, .string (⟨#[95]⟩ : ByteArray)] from (k41_mkF _ _ (⟨1, 2, y107, (⟨#[95]⟩ : ByteArray)⟩ : S41) (Kd.R_reads' (Kd.R_mono (ok' := (fun k_ => (w.heap.size ≤ k_))) (HO109.out) (fun k_ hk => hk.1.1.1))).2.1 (Kd.R_F (Kd.R_mono (ok' := (fun k_ => (w.heap.size ≤ k_))) (HO109.out) (fun k_ hk => hk.1.1.1))))) (Reps.none _ _))))))); intro v111 w10 ho11 hb hg_ hnew_; clear hg_ hnew_; (first | rw [← Ny110.out] at ho11 | (simp only [Int.reduceToNat] at ho11; rw [← Ny110.out] at ho11)); have n0_ := Aside0.mk (Kd.N_lower ho11 hS_); have n1_ := Aside0.mk (below_step hB_ hb); clear HB HO103 HO106 HO109; have HO112 := n0_; have HB := n1_; clear n0_ n1_; clear hb ho11))
  go_ret
  exact ⟨_, hV_, hN_ HO112.out, hC_⟩

/-! ### next_Mark: function 12 -/
def next_Mark.f (a0 : Int) : Option (Bool) := if a0 ≥ 1 then (some (decide (a0 ≤ 3))) else (some false)
set_option maxHeartbeats 8000000 in
set_option maxRecDepth 100000 in
theorem next_Mark.calls (a0 : Int) (r : Bool) (w : World) (h : next_Mark.f a0 = some r) :
    Calls Tryd.prog 12 #[.int .i64 a0] w fun e w' => e = .returned (.bool r) ∧ Drawn0 w w' := by
  have H : (if a0 ≥ 1 then (some (decide (a0 ≤ 3))) else (some false)) = some r := h
  clear h
  by_cases c2 : a0 ≥ 1
  case pos =>
    rw [if_pos c2] at H
    have c2b0 : decide (1 ≤ a0) = true := decide_eq_true c2
    clear c2
    obtain rfl := Option.some.inj H
    go_enter Tryd.func12, Tryd.ntmps12
    go_wp2
    go_ret
    exact ⟨by first | rfl | (simp; done) | (simp [*]; done), by repeat (first | exact Drawn0.refl _ | apply Drawn0.step)⟩
  rw [if_neg c2] at H
  have c2b0 : decide (1 ≤ a0) = false := decide_eq_false c2
  clear c2
  obtain rfl := Option.some.inj H
  go_enter Tryd.func12, Tryd.ntmps12
  go_wp2
  go_ret
  exact ⟨by first | rfl | (simp; done) | (simp [*]; done), by repeat (first | exact Drawn0.refl _ | apply Drawn0.step)⟩

/-! ### next_Way: function 19 -/
def next_Way.f (a0 : Int) : Option (Bool) := if a0 = 0 then (some true) else (some (a0 == 1))
set_option maxHeartbeats 8000000 in
set_option maxRecDepth 100000 in
theorem next_Way.calls (a0 : Int) (r : Bool) (w : World) (h : next_Way.f a0 = some r) :
    Calls Tryd.prog 19 #[.int .i64 a0] w fun e w' => e = .returned (.bool r) ∧ Drawn0 w w' := by
  have H : (if a0 = 0 then (some true) else (some (a0 == 1))) = some r := h
  clear h
  by_cases c2 : a0 = 0
  case neg =>
    rw [if_neg c2] at H
    have c2b0 : (a0 == 0) = false := beq_eq_false_iff_ne.mpr c2
    have c2b1 : (a0 != 0) = true := bne_iff_ne.mpr c2
    obtain rfl := Option.some.inj H
    go_enter Tryd.func19, Tryd.ntmps19
    go_wp2
    go_ret
    exact ⟨by first | rfl | (simp; done) | (simp [*]; done), by repeat (first | exact Drawn0.refl _ | apply Drawn0.step)⟩

  rw [if_pos c2] at H
  have c2b0 : (a0 == 0) = true := beq_iff_eq.mpr c2
  have c2b1 : (a0 != 0) = false := bne_eq_false_iff_eq.mpr c2
  clear c2
  obtain rfl := Option.some.inj H
  go_enter Tryd.func19, Tryd.ntmps19
  go_wp2
  go_ret
  exact ⟨by first | rfl | (simp; done) | (simp [*]; done), by repeat (first | exact Drawn0.refl _ | apply Drawn0.step)⟩
end Go.Proofs.YtbnljapgnfmmoaaDoor.G
end
section
-- Laid by the session's own driver gp.py over the kit's printer. Not trusted: Lean checks it.
namespace Go.Proofs.YtbnljapgnfmmoaaDoor.G
open Go.RowKit Go.Proofs.YtbnljapgnfmmoaaDoorW.PrintWords Go.Proofs.YtbnljapgnfmmoaaDoorW.PrintLast Go.Proofs.YtbnljapgnfmmoaaDoorW.PrintMore
attribute [local go_sem] max2_int min2_int max_two min_two max_three min_three max_four min_four   -- for this text's walks alone
set_option linter.unusedVariables false
set_option linter.unusedSimpArgs false

/-! ### next_Ask: function 17 -/
def next_Ask.f (k : Nat) (a0 : Int) (l1 : List (S41)) (l2 : List Int) : Option (Int × Int) := if a0 = 1 then ((half_Ask.f k l1 l2).bind fun bt171 => (some (bt171.1, bt171.2))) else ((top_Ask.f k l1 l2).bind fun bt173 => (some (bt173.1, bt173.2)))
theorem next_Ask.mono : ∀ a0 a1 a2 k, LeO (next_Ask.f k a0 a1 a2) (next_Ask.f (k + 1) a0 a1 a2) := by
  intro a0 a1 a2 k
  unfold next_Ask.f
  repeat' first
      | (with_reducible exact half_Ask.mono _ _ _)
      | (with_reducible exact top_Ask.mono _ _ _)
      | (with_reducible exact LeO.refl _)
      | (with_reducible exact LeO.none _)
      | (with_reducible refine LeO.ite ?_ ?_)
      | (with_reducible refine LeO.bind ?_ (fun _ => ?_))
      | exact half_Ask.mono _ _ _
      | exact top_Ask.mono _ _ _
      | exact LeO.none _
      | refine LeO.ite ?_ ?_
      | refine LeO.bind ?_ (fun _ => ?_)
set_option maxHeartbeats 8000000 in
set_option maxRecDepth 100000 in
theorem next_Ask.calls (k : Nat) (a0 : Int) (A1 : Option Addr) (c1 : Nat) (l1 : List (S41)) (A2 : Option Addr) (c2 : Nat) (l2 : List Int) (r1 : Int) (r2 : Int) (w : World) (hr1 : Kd.C k41 w A1 l1.length l1) (hc1 : l1.length ≤ c1) (hr2 : Kd.C (Kd.int .i64) w A2 l2.length l2) (hc2 : l2.length ≤ c2) (h : next_Ask.f k a0 l1 l2 = some (r1, r2)) (hG : GOK w) :
    Calls Tryd.prog 17 #[.int .i64 a0, .slice A1 l1.length c1, .slice A2 l2.length c2] w fun e w' => e = .returned (.agg #[.int .i64 r1, .int .i64 r2]) ∧ Below w.heap.size w w' := by
  have hu45 := Tryd.underlying45
  have HR1 := Aside0.mk hr1
  have HC1 := Aside0.mk hc1
  clear hr1 hc1
  have HR2 := Aside0.mk hr2
  have HC2 := Aside0.mk hc2
  clear hr2 hc2
  have HB := Aside0.mk (Below.refl w.heap.size w)
  have H : (if a0 = 1 then ((half_Ask.f k l1 l2).bind fun bt171 => (some (bt171.1, bt171.2))) else ((top_Ask.f k l1 l2).bind fun bt173 => (some (bt173.1, bt173.2)))) = some (r1, r2) := h
  clear h
  by_cases c4 : a0 = 1
  case neg =>
    rw [if_neg c4] at H
    have c4b0 : (a0 == 1) = false := beq_eq_false_iff_ne.mpr c4
    have c4b1 : (a0 != 1) = true := bne_iff_ne.mpr c4
    replace H := Option.bind_eq_some_iff.mp H
    obtain ⟨⟨t173, t174⟩, A90, H⟩ := H
    replace H : (some (t173, t174)) = some (r1, r2) := H
    have A9 := Aside0.mk A90
    clear A90
    simp only [Option.some.injEq, Prod.mk.injEq] at H
    obtain ⟨rfl, rfl⟩ := H
    go_enter Tryd.func17, Tryd.ntmps17
    go_wp2_with (first | ((with_reducible refine gate_dst (N := 6) rfl ?_); refine boxE_ 6 #[.int .i64 0, .int .i64 0] 45 ?_; intro gb170 hg w10 hbox hb; have n0_ := Aside0.mk (below_step hB_ hb); have n1_ := Aside0.mk (hbox); have n2_ := Aside0.mk ((gE_ hg : w.heap.size ≤ gb170)); have n3_ := Aside0.mk ((gE_ hg : w.heap.size ≤ gb170)); clear HB; have HB := n0_; have BK170 := n1_; have GW170 := n2_; have GE170 := n3_; clear n0_ n1_ n2_ n3_; clear hb hbox hg) | ((with_reducible refine gate_callee (f := 26) rfl ?_); refine goesL_ (some 14) rfl rfl Tryd.func26 (by kernel_rfl) rfl #[.slice A1 l1.length c1, .slice A2 l2.length c2] rfl hL_ ?_; (with_reducible refine (top_Ask.calls k _ _ l1 _ _ l2 t173 t174 _ ?side1 ?side2 ?side3 ?side4 A9.out).mono ?_); (case side1 => exact cB_ HR1.out); (case side2 => exact HC1.out); (case side3 => exact cB_ HR2.out); (case side4 => exact HC2.out); rintro e w11 ⟨rfl, hb⟩; refine ⟨_, rfl, ?_⟩; have n0_ := Aside0.mk (bB_ BK170.out hb); have n1_ := Aside0.mk (below_step hC_ hb); clear BK170 HB; have BK170 := n0_; have HB := n1_; clear n0_ n1_; (try clear hb); (try clear hb2); (try clear hk); (try clear hi); obtain ⟨hcz12_0, hcz12_1, hfz12_0, hfz12_1⟩ := bx2_ BK170.out))
    refine bodyPost_ret (results_cell_row rfl _ _ gb170 45 #[.int .i64 t173, .int .i64 t174] (0, 0) _ rfl (bP_ (bP_ (hK_ BK170.out))) Tryd.underlying45 rfl (by kernel_rfl)) rfl ?_
    exact ⟨hV_, hC_⟩

  rw [if_pos c4] at H
  have c4b0 : (a0 == 1) = true := beq_iff_eq.mpr c4
  have c4b1 : (a0 != 1) = false := bne_eq_false_iff_eq.mpr c4
  clear c4
  replace H := Option.bind_eq_some_iff.mp H
  obtain ⟨⟨t171, t172⟩, A50, H⟩ := H
  replace H : (some (t171, t172)) = some (r1, r2) := H
  have A5 := Aside0.mk A50
  clear A50
  simp only [Option.some.injEq, Prod.mk.injEq] at H
  obtain ⟨rfl, rfl⟩ := H
  go_enter Tryd.func17, Tryd.ntmps17
  go_wp2_with (first | ((with_reducible refine gate_dst (N := 6) rfl ?_); refine boxE_ 6 #[.int .i64 0, .int .i64 0] 45 ?_; intro gb170 hg w6 hbox hb; have n0_ := Aside0.mk (below_step hB_ hb); have n1_ := Aside0.mk (hbox); have n2_ := Aside0.mk ((gE_ hg : w.heap.size ≤ gb170)); have n3_ := Aside0.mk ((gE_ hg : w.heap.size ≤ gb170)); clear HB; have HB := n0_; have BK170 := n1_; have GW170 := n2_; have GE170 := n3_; clear n0_ n1_ n2_ n3_; clear hb hbox hg) | ((with_reducible refine gate_callee (f := 25) rfl ?_); refine goesL_ (some 11) rfl rfl Tryd.func25 (by kernel_rfl) rfl #[.slice A1 l1.length c1, .slice A2 l2.length c2] rfl hL_ ?_; (with_reducible refine (half_Ask.calls k _ _ l1 _ _ l2 t171 t172 _ ?side1 ?side2 ?side3 ?side4 A5.out (by first | exact hG | exact GOK.below hG hC_)).mono ?_); (case side1 => exact cB_ HR1.out); (case side2 => exact HC1.out); (case side3 => exact cB_ HR2.out); (case side4 => exact HC2.out); rintro e w7 ⟨rfl, hb⟩; refine ⟨_, rfl, ?_⟩; have n0_ := Aside0.mk (bB_ BK170.out hb); have n1_ := Aside0.mk (below_step hC_ hb); clear BK170 HB; have BK170 := n0_; have HB := n1_; clear n0_ n1_; (try clear hb); (try clear hb2); (try clear hk); (try clear hi); obtain ⟨hcz8_0, hcz8_1, hfz8_0, hfz8_1⟩ := bx2_ BK170.out))
  refine bodyPost_ret (results_cell_row rfl _ _ gb170 45 #[.int .i64 t171, .int .i64 t172] (0, 0) _ rfl (bP_ (bP_ (hK_ BK170.out))) Tryd.underlying45 rfl (by kernel_rfl)) rfl ?_
  exact ⟨hV_, hC_⟩
end Go.Proofs.YtbnljapgnfmmoaaDoor.G
end
section
-- Laid by the session's own driver gp.py over the kit's printer. Not trusted: Lean checks it.
namespace Go.Proofs.YtbnljapgnfmmoaaDoor.G
open Go.RowKit Go.Proofs.YtbnljapgnfmmoaaDoorW.PrintWords Go.Proofs.YtbnljapgnfmmoaaDoorW.PrintLast Go.Proofs.YtbnljapgnfmmoaaDoorW.PrintMore
attribute [local go_sem] max2_int min2_int max_two min_two max_three min_three max_four min_four   -- for this text's walks alone
set_option linter.unusedVariables false
set_option linter.unusedSimpArgs false

/-! ### next_Marks: function 18 -/
mutual
def next_Marks.j0 : Nat → Bool → List (S41) → Int → List (S29) → Option (List Int × Int)
  | 0, _, _, _, _ => none
  | k + 1, x16, x176000, x176001, x176002 => if x16 = true then (some (([] : List Int), 2000)) else (if 0 ≤ (x176000.length : Int) then (if ((x176000.length : Int) : Int).toNat ≤ 35184372088832 then (next_Marks.l0 k (List.replicate ((x176000.length : Int) : Int).toNat 0) x176002 (x176002.length : Int) 0) else (none)) else (none))
def next_Marks.l0 : Nat → List Int → List (S29) → Int → Int → Option (List Int × Int)
  | 0, _, _, _, _ => none
  | k + 1, x4, x22, x23, x24 => if x24 < x23 then (if 0 ≤ x24 then (if x24 < (x22.length : Int) then (if ((rd_T29 x22 x24).f0) < 0 then (some (([] : List Int), 2000)) else (if ((rd_T29 x22 x24).f0) ≥ (x4.length : Int) then (some (([] : List Int), 2000)) else ((next_Mark.f ((rd_T29 x22 x24).f1)).bind fun t182 => (if t182 = true then (if 0 ≤ ((rd_T29 x22 x24).f0) then (if ((rd_T29 x22 x24).f0) < (x4.length : Int) then (next_Marks.l0 k (x4.set (((rd_T29 x22 x24).f0) : Int).toNat ((rd_T29 x22 x24).f1)) x22 x23 (wrap64 (x24 + 1))) else (none)) else (none)) else (some (([] : List Int), 2000)))))) else (none)) else (none)) else (some (x4, 0))
end
def next_Marks.f (k : Nat) (l0_0 : List (S41)) (a0_1 : Int) (l0_2 : List (S29)) : Option (List Int × Int) := (trail_May.f k l0_0).bind fun t176 => (if t176 = true then (next_Marks.j0 k (decide ((l0_2.length : Int) > 512)) l0_0 a0_1 l0_2) else (next_Marks.j0 k true l0_0 a0_1 l0_2))
theorem next_Marks.mono_l : ∀ k, (∀ y0 y1 y2 y3, LeO (next_Marks.j0 k y0 y1 y2 y3) (next_Marks.j0 (k + 1) y0 y1 y2 y3)) ∧ (∀ y0 y1 y2 y3, LeO (next_Marks.l0 k y0 y1 y2 y3) (next_Marks.l0 (k + 1) y0 y1 y2 y3))
  | 0 => ⟨fun _ _ _ _ r h => by simp [next_Marks.j0] at h, fun _ _ _ _ r h => by simp [next_Marks.l0] at h⟩
  | k + 1 => by
    obtain ⟨ih0, ih1⟩ := next_Marks.mono_l k
    refine ⟨?_, ?_⟩
    · intro y0 y1 y2 y3
      unfold next_Marks.j0
      repeat' first
      | (with_reducible exact ih0 _ _ _ _)
      | (with_reducible exact ih1 _ _ _ _)
      | (with_reducible exact trail_May.mono _ _)
      | (with_reducible exact LeO.refl _)
      | (with_reducible exact LeO.none _)
      | (with_reducible refine LeO.ite ?_ ?_)
      | (with_reducible refine LeO.bind ?_ (fun _ => ?_))
      | exact ih0 _ _ _ _
      | exact ih1 _ _ _ _
      | exact trail_May.mono _ _
      | exact LeO.none _
      | refine LeO.ite ?_ ?_
      | refine LeO.bind ?_ (fun _ => ?_)
    · intro y0 y1 y2 y3
      unfold next_Marks.l0
      repeat' first
      | (with_reducible exact ih0 _ _ _ _)
      | (with_reducible exact ih1 _ _ _ _)
      | (with_reducible exact trail_May.mono _ _)
      | (with_reducible exact LeO.refl _)
      | (with_reducible exact LeO.none _)
      | (with_reducible refine LeO.ite ?_ ?_)
      | (with_reducible refine LeO.bind ?_ (fun _ => ?_))
      | exact ih0 _ _ _ _
      | exact ih1 _ _ _ _
      | exact trail_May.mono _ _
      | exact LeO.none _
      | refine LeO.ite ?_ ?_
      | refine LeO.bind ?_ (fun _ => ?_)
theorem next_Marks.mono : ∀ a0 a1 a2 k, LeO (next_Marks.f k a0 a1 a2) (next_Marks.f (k + 1) a0 a1 a2) := by
  intro a0 a1 a2 k
  obtain ⟨ih0, ih1⟩ := next_Marks.mono_l k
  unfold next_Marks.f
  repeat' first
      | (with_reducible exact ih0 _ _ _ _)
      | (with_reducible exact ih1 _ _ _ _)
      | (with_reducible exact trail_May.mono _ _)
      | (with_reducible exact LeO.refl _)
      | (with_reducible exact LeO.none _)
      | (with_reducible refine LeO.ite ?_ ?_)
      | (with_reducible refine LeO.bind ?_ (fun _ => ?_))
      | exact ih0 _ _ _ _
      | exact ih1 _ _ _ _
      | exact trail_May.mono _ _
      | exact LeO.none _
      | refine LeO.ite ?_ ?_
      | refine LeO.bind ?_ (fun _ => ?_)
set_option maxHeartbeats 8000000 in
set_option maxRecDepth 100000 in
theorem next_Marks.calls (k : Nat) (A0_0 : Option Addr) (c0_0 : Nat) (l0_0 : List (S41)) (a0_1 : Int) (A0_2 : Option Addr) (c0_2 : Nat) (l0_2 : List (S29)) (r1 : List Int) (r2 : Int) (w : World) (hr0_0 : Kd.C k41 w A0_0 l0_0.length l0_0) (hc0_0 : l0_0.length ≤ c0_0) (hr0_2 : Kd.C k29 w A0_2 l0_2.length l0_2) (hc0_2 : l0_2.length ≤ c0_2) (h : next_Marks.f k l0_0 a0_1 l0_2 = some (r1, r2)) (hG : GOK w) :
    Calls Tryd.prog 18 #[.agg #[.slice A0_0 l0_0.length c0_0, .int .i64 a0_1, .slice A0_2 l0_2.length c0_2]] w fun e w' => ∃ v0_ : Value, e = .returned (.tuple #[v0_, .int .i64 r2]) ∧ Kd.R (Kd.int .i64) 3 w' w.heap.size (fun _ => True) v0_ r1 ∧ Below w.heap.size w w' := by
  have hu27 := Tryd.underlying27
  have hu29 := Tryd.underlying29
  have HR0_0 := Aside0.mk hr0_0
  have HC0_0 := Aside0.mk hc0_0
  clear hr0_0 hc0_0
  have HR0_2 := Aside0.mk hr0_2
  have HC0_2 := Aside0.mk hc0_2
  clear hr0_2 hc0_2
  have HB := Aside0.mk (Below.refl w.heap.size w)
  have H : ((trail_May.f k l0_0).bind fun t176 => (if t176 = true then (next_Marks.j0 k (decide ((l0_2.length : Int) > 512)) l0_0 a0_1 l0_2) else (next_Marks.j0 k true l0_0 a0_1 l0_2))) = some (r1, r2) := h
  clear h
  have HC2 := Aside0.mk H
  clear H
  go_enter Tryd.func18, Tryd.ntmps18
  go_upto_region 1 with (first | ((with_reducible refine gate_dst (N := 1) rfl ?_); (try (refine gate_guard (by rfl) ?_; dsimp only)); refine boxE_ 1 #[.slice A0_0 l0_0.length c0_0, .int .i64 a0_1, .slice A0_2 l0_2.length c0_2] 27 ?_; intro gb175 hg w3 hbox hb; have n0_ := Aside0.mk (below_step hB_ hb); have n1_ := Aside0.mk (hbox); have n2_ := Aside0.mk ((gE_ hg : w.heap.size ≤ gb175)); have n3_ := Aside0.mk ((gE_ hg : w.heap.size ≤ gb175)); clear HB; have HB := n0_; have BK175 := n1_; have GW175 := n2_; have GE175 := n3_; clear n0_ n1_ n2_ n3_; clear hb hbox hg))
  (try simp only [Act.put, List.setIfInBounds_toArray, List.set_cons_zero, List.set_cons_succ])
  go_cut [16] (fun v16 wc => ∃ (kq : Nat) (x16_1 : Bool), v16 = .bool x16_1 ∧ Aside0 (next_Marks.j0 kq x16_1 l0_0 a0_1 l0_2 = some (r1, r2)) ∧ Aside0 (kq ≤ k) ∧ Aside0 (wc.heap[gb175]? = some (.cells #[(.slice A0_0 l0_0.length c0_0), .int .i64 a0_1, (.slice A0_2 l0_2.length c0_2)] 27 (0, 0))) ∧ Aside0 (Below w.heap.size w wc))
  case first =>
    have H := HC2.out
    clear HC2
    replace H := Option.bind_eq_some_iff.mp H
    obtain ⟨t176, A40, H⟩ := H
    replace H : (if t176 = true then (next_Marks.j0 k (decide ((l0_2.length : Int) > 512)) l0_0 a0_1 l0_2) else (next_Marks.j0 k true l0_0 a0_1 l0_2)) = some (r1, r2) := H
    have A4 := Aside0.mk A40
    clear A40
    by_cases c5 : t176 = true
    case neg =>
      replace c5 := Bool.eq_false_iff.mpr c5
      subst c5
      have H1 : (next_Marks.j0 k true l0_0 a0_1 l0_2) = some (r1, r2) := by rw [if_neg (show ¬ (false = true) by decide)] at H; exact H
      clear H
      have H := H1
      clear H1
      have H' := Aside0.mk H
      clear H
      obtain ⟨hcz9_0, hcz9_1, hcz9_2, hfz9_0, hfz9_1, hfz9_2⟩ := bx3_ BK175.out
      go_wp2_with (first | ((with_reducible refine gate_callee (f := 24) rfl ?_); refine goesL_ (some 9) rfl rfl Tryd.func24 (by kernel_rfl) rfl #[.slice A0_0 l0_0.length c0_0] rfl hL_ ?_; (with_reducible refine (trail_May.calls k _ _ l0_0 false _ ?side1 ?side2 A4.out (by first | exact hG | exact GOK.below hG hC_)).mono ?_); (case side1 => exact cB_ HR0_0.out); (case side2 => exact HC0_0.out); rintro e w10 ⟨rfl, hb⟩; refine ⟨_, rfl, ?_⟩; have n0_ := Aside0.mk (bB_ BK175.out hb); have n1_ := Aside0.mk (below_step hC_ hb); clear BK175 HB; have BK175 := n0_; have HB := n1_; clear n0_ n1_; (try clear hb); (try clear hb2); (try clear hk); (try clear hi)))
      go_meet
      case rel => exact ⟨_, (true), hW_, H', ⟨by first | omega | exact Nat.le_refl _⟩, ⟨(hK_ BK175.out)⟩, ⟨hC_⟩⟩
    subst c5
    have H1 : (next_Marks.j0 k (decide ((l0_2.length : Int) > 512)) l0_0 a0_1 l0_2) = some (r1, r2) := by rw [if_pos rfl] at H; exact H
    clear H
    have H := H1
    clear H1
    have H' := Aside0.mk H
    clear H
    obtain ⟨hcz6_0, hcz6_1, hcz6_2, hfz6_0, hfz6_1, hfz6_2⟩ := bx3_ BK175.out
    go_wp2_with (first | ((with_reducible refine gate_callee (f := 24) rfl ?_); refine goesL_ (some 9) rfl rfl Tryd.func24 (by kernel_rfl) rfl #[.slice A0_0 l0_0.length c0_0] rfl hL_ ?_; (with_reducible refine (trail_May.calls k _ _ l0_0 true _ ?side1 ?side2 A4.out (by first | exact hG | exact GOK.below hG hC_)).mono ?_); (case side1 => exact cB_ HR0_0.out); (case side2 => exact HC0_0.out); rintro e w7 ⟨rfl, hb⟩; refine ⟨_, rfl, ?_⟩; have n0_ := Aside0.mk (bB_ BK175.out hb); have n1_ := Aside0.mk (below_step hC_ hb); clear BK175 HB; have BK175 := n0_; have HB := n1_; clear n0_ n1_; (try clear hb); (try clear hb2); (try clear hk); (try clear hi); obtain ⟨hcz8_0, hcz8_1, hcz8_2, hfz8_0, hfz8_1, hfz8_2⟩ := bx3_ BK175.out))
    go_meet
    case rel => exact ⟨_, (decide ((l0_2.length : Int) > 512)), hW_, H', ⟨by first | omega | exact Nat.le_refl _⟩, ⟨(hK_ BK175.out)⟩, ⟨hC_⟩⟩
  case rest =>
    clear HC2
    try clear c1
    try clear c2
    try clear p2
    try clear c5
    try clear hcz6_0
    try clear hcz6_1
    try clear hcz6_2
    try clear hcz8_0
    try clear hcz8_1
    try clear hcz8_2
    try clear hcz9_0
    try clear hcz9_1
    try clear hcz9_2
    try clear hfz6_0
    try clear hfz6_1
    try clear hfz6_2
    try clear hfz8_0
    try clear hfz8_1
    try clear hfz8_2
    try clear hfz9_0
    try clear hfz9_1
    try clear hfz9_2
    obtain ⟨kq, x16_1, rfl, HA, HJ1, BK175, HB⟩ := hcut
    cases kq with
    | zero => exact absurd HA.out (by simp [next_Marks.j0])
    | succ kj1 =>
      have H := HA.out
      clear HA
      simp only [next_Marks.j0] at H
      by_cases c11 : x16_1 = true
      case pos =>
        subst c11
        have H1 : (some (([] : List Int), 2000)) = some (r1, r2) := by rw [if_pos rfl] at H; exact H
        clear H
        have H := H1
        clear H1
        simp only [Option.some.injEq, Prod.mk.injEq] at H
        obtain ⟨rfl, rfl⟩ := H
        go_wp2
        go_ret2
        exact ⟨_, hV_, by first | exact Kd.R_nil _ _ _ _ _ | exact Kd.N_nil _ _ _ _ _ | exact Kd.V_nil _ _ _ _ _ | exact Kd.Q_nil _ _ _ _ _ | exact Kd.S_nil _ _ _ _ _, hC_⟩
      replace c11 := Bool.eq_false_iff.mpr c11
      subst c11
      have H1 : (if 0 ≤ (l0_0.length : Int) then (if ((l0_0.length : Int) : Int).toNat ≤ 35184372088832 then (next_Marks.l0 kj1 (List.replicate ((l0_0.length : Int) : Int).toNat 0) l0_2 (l0_2.length : Int) 0) else (none)) else (none)) = some (r1, r2) := by rw [if_neg (show ¬ (false = true) by decide)] at H; exact H
      clear H
      have H := H1
      clear H1
      replace H := ifI_ H; obtain ⟨c12, H⟩ := H
      have c12b0 := eq_true c12
      have c12b1 : decide (0 ≤ (l0_0.length : Int)) = true := decide_eq_true c12
      clear c12
      replace H := ifI_ H; obtain ⟨c13, H⟩ := H
      have c13b0 := eq_true c13
      have c13b1 : decide (((l0_0.length : Int) : Int).toNat ≤ 35184372088832) = true := decide_eq_true c13
      clear c13
      obtain ⟨y177, hy177⟩ : ∃ y_ : List Int, y_ = (List.replicate ((l0_0.length : Int) : Int).toNat 0) := ⟨_, rfl⟩
      replace H : (next_Marks.l0 kj1 y177 l0_2 (l0_2.length : Int) 0) = some (r1, r2) := by first | (rw [hy177]; with_reducible exact H) | (have H2_ := (Option.bind_some _ _).symm.trans H; rw [hy177]; with_reducible exact H2_) | (have H2_ := (Option.bind_some _ _).symm.trans H; with_reducible exact H2_) | with_reducible exact H | (rw [hy177]; exact H) | exact H
      have Ny177 := Aside0.mk hy177
      clear hy177
      have H' := Aside0.mk H
      clear H
      obtain ⟨hcz14_0, hcz14_1, hcz14_2, hfz14_0, hfz14_1, hfz14_2⟩ := bx3_ BK175.out
      go_wp2_with (first | ((with_reducible refine gate_dst (N := 20) rfl ?_); (try (refine gate_guard (by rfl) ?_; dsimp only)); refine Kd.R_make (Kd.int .i64) _ 3 rfl (N := 20) rfl 30 _ _ rfl (l0_0.length : Int) rfl rfl Tryd.underlying30 (.int .i64 0) 8 info3 rfl (by decide) (by omega) 0 (ok := fun _ => True) (okp := fun _ => True) rfl (fun _ hk => hk) trivial (of_decide_eq_true hA_) (Nat.le_trans (Nat.mul_le_mul_right _ (of_decide_eq_true hA_ : (l0_0.length : Int).toNat ≤ 35184372088832)) (by omega)) (Below.refl _ _) (Nat.le_refl _) ?_; intro v178 w15 ho16 hb hg_ hnew_; clear hg_ hnew_; (first | rw [← Ny177.out] at ho16 | (simp only [Int.reduceToNat] at ho16; rw [← Ny177.out] at ho16)); have n0_ := Aside0.mk (Kd.R_lower ho16 (below_size hC_)); have n1_ := Aside0.mk (bB_ BK175.out hb); have n2_ := Aside0.mk (below_step hC_ hb); clear BK175 HB; have HO179 := n0_; have BK175 := n1_; have HB := n2_; clear n0_ n1_ n2_; clear hb ho16; obtain ⟨hcz17_0, hcz17_1, hcz17_2, hfz17_0, hfz17_1, hfz17_2⟩ := bx3_ BK175.out))
      go_loopg [24] kj1 (fun kq v24 w' => ∃ (x4_2 : List Int) (x24_2 : Int), v24 = .int .i64 x24_2 ∧ Aside0 (next_Marks.l0 kq x4_2 l0_2 (l0_2.length : Int) x24_2 = some (r1, r2)) ∧ Aside0 (kq ≤ kj1) ∧ Aside0 (Kd.R (Kd.int .i64) 3 w' w.heap.size (fun _ => True) v178 x4_2) ∧ Aside0 (w'.heap[gb175]? = some (.cells #[(.slice A0_0 l0_0.length c0_0), .int .i64 a0_1, (.slice A0_2 l0_2.length c0_2)] 27 (0, 0))) ∧ Aside0 (Below w.heap.size w w'))
      case atStart => exact ⟨(y177), (0), hW_, H', ⟨Nat.le_refl _⟩, ⟨hR_ HO179.out⟩, ⟨(hK_ BK175.out)⟩, ⟨hC_⟩⟩
      case round =>
        clear H'
        try clear c1
        try clear c2
        try clear p2
        try clear c5
        try clear c11
        try clear c12
        try clear c12b0
        try clear c12b1
        try clear c13
        try clear c13b0
        try clear c13b1
        try clear hcz14_0
        try clear hcz14_1
        try clear hcz14_2
        try clear hcz17_0
        try clear hcz17_1
        try clear hcz17_2
        try clear hcz6_0
        try clear hcz6_1
        try clear hcz6_2
        try clear hcz8_0
        try clear hcz8_1
        try clear hcz8_2
        try clear hcz9_0
        try clear hcz9_1
        try clear hcz9_2
        try clear hfz14_0
        try clear hfz14_1
        try clear hfz14_2
        try clear hfz17_0
        try clear hfz17_1
        try clear hfz17_2
        try clear hfz6_0
        try clear hfz6_1
        try clear hfz6_2
        try clear hfz8_0
        try clear hfz8_1
        try clear hfz8_2
        try clear hfz9_0
        try clear hfz9_1
        try clear hfz9_2
        try clear p2
        obtain ⟨x4_2, x24_2, rfl, HA, HK2, HO_4, BK175, HB⟩ := hrel
        cases gk with
        | zero => exact absurd HA.out (by simp [next_Marks.l0])
        | succ k2 =>
          have H := HA.out
          clear HA
          simp only [next_Marks.l0] at H
          by_cases c18 : x24_2 < (l0_2.length : Int)
          case neg =>
            rw [if_neg c18] at H
            have c18b0 : decide (x24_2 < (l0_2.length : Int)) = false := decide_eq_false c18
            clear c18
            simp only [Option.some.injEq, Prod.mk.injEq] at H
            obtain ⟨rfl, rfl⟩ := H
            go_wp2
            go_ret2
            exact ⟨_, hV_, hR_ HO_4.out, hC_⟩
          rw [if_pos c18] at H
          have c18b0 : decide (x24_2 < (l0_2.length : Int)) = true := decide_eq_true c18
          clear c18
          replace H := ifI_ H; obtain ⟨c19, H⟩ := H
          have c19b0 : decide (0 ≤ x24_2) = true := decide_eq_true c19
          clear c19
          replace H := ifI_ H; obtain ⟨c20, H⟩ := H
          have c20b0 : decide (x24_2 < (l0_2.length : Int)) = true := decide_eq_true c20
          clear c20
          by_cases c21 : ((rd_T29 l0_2 x24_2).f0) < 0
          case pos =>
            rw [if_pos c21] at H
            have c21b0 : decide (((rd_T29 l0_2 x24_2).f0) < 0) = true := decide_eq_true c21
            clear c21
            simp only [Option.some.injEq, Prod.mk.injEq] at H
            obtain ⟨rfl, rfl⟩ := H
            have p180 : 0 ≤ (x24_2 : Int) := of_decide_eq_true hA_
            have q180 : x24_2 < (l0_2.length : Int) := of_decide_eq_true hA_
            obtain ⟨ad180, e180, hx180_0, hx180_1⟩ := at_T29 HR0_2.out x24_2 p180 q180
            cases e180
            replace hx180_0 := cl_ HB.out hx180_0
            replace hx180_1 := cl_ HB.out hx180_1
            replace p180 := eq_true p180
            replace q180 := eq_true q180
            go_wp2_with (first | ((with_reducible refine gate_dst (N := 6) rfl ?_); (try (refine gate_guard (by rfl) ?_; dsimp only)); refine boxE_ 6 #[.int .i64 0, .int .i64 0] 29 ?_; intro gb181 hg w22 hbox hb; have n0_ := Aside0.mk (Kd.R_below (hR_ HO_4.out) hb); have n1_ := Aside0.mk (bB_ BK175.out hb); have n2_ := Aside0.mk (below_step hC_ hb); have n3_ := Aside0.mk (hbox); have n4_ := Aside0.mk ((gE_ hg : w.heap.size ≤ gb181)); have n5_ := Aside0.mk ((gE_ hg : w.heap.size ≤ gb181)); have n6_ := Aside0.mk ((bL_ BK175.out hg : gb175 ≠ gb181)); have n7_ := Aside0.mk ((bG_ BK175.out hg : gb181 ≠ gb175)); clear HO_4 BK175 HB; have HO_4 := n0_; have BK175 := n1_; have HB := n2_; have BK181 := n3_; have GW181 := n4_; have GE181 := n5_; have NB175_181 := n6_; have NB181_175 := n7_; clear n0_ n1_ n2_ n3_ n4_ n5_ n6_ n7_; clear hb hbox hg; have hnb23 := NB181_175.out; have hnc23 := NB175_181.out; obtain ⟨hcz24_0, hcz24_1, hfz24_0, hfz24_1⟩ := bx2_ BK181.out))
            go_ret2
            exact ⟨_, hV_, by first | exact Kd.R_nil _ _ _ _ _ | exact Kd.N_nil _ _ _ _ _ | exact Kd.V_nil _ _ _ _ _ | exact Kd.Q_nil _ _ _ _ _ | exact Kd.S_nil _ _ _ _ _, hC_⟩
          rw [if_neg c21] at H
          have c21b0 : decide (((rd_T29 l0_2 x24_2).f0) < 0) = false := decide_eq_false c21
          clear c21
          by_cases c25 : ((rd_T29 l0_2 x24_2).f0) ≥ (x4_2.length : Int)
          case pos =>
            rw [if_pos c25] at H
            have c25b0 : decide ((x4_2.length : Int) ≤ ((rd_T29 l0_2 x24_2).f0)) = true := decide_eq_true c25
            clear c25
            simp only [Option.some.injEq, Prod.mk.injEq] at H
            obtain ⟨rfl, rfl⟩ := H
            have p180 : 0 ≤ (x24_2 : Int) := of_decide_eq_true hA_
            have q180 : x24_2 < (l0_2.length : Int) := of_decide_eq_true hA_
            obtain ⟨ad180, e180, hx180_0, hx180_1⟩ := at_T29 HR0_2.out x24_2 p180 q180
            cases e180
            replace hx180_0 := cl_ HB.out hx180_0
            replace hx180_1 := cl_ HB.out hx180_1
            replace p180 := eq_true p180
            replace q180 := eq_true q180
            go_wp2_with (first | ((with_reducible refine gate_dst (N := 6) rfl ?_); (try (refine gate_guard (by rfl) ?_; dsimp only)); refine boxE_ 6 #[.int .i64 0, .int .i64 0] 29 ?_; intro gb181 hg w26 hbox hb; have n0_ := Aside0.mk (Kd.R_below (hR_ HO_4.out) hb); have n1_ := Aside0.mk (bB_ BK175.out hb); have n2_ := Aside0.mk (below_step hC_ hb); have n3_ := Aside0.mk (hbox); have n4_ := Aside0.mk ((gE_ hg : w.heap.size ≤ gb181)); have n5_ := Aside0.mk ((gE_ hg : w.heap.size ≤ gb181)); have n6_ := Aside0.mk ((bL_ BK175.out hg : gb175 ≠ gb181)); have n7_ := Aside0.mk ((bG_ BK175.out hg : gb181 ≠ gb175)); clear HO_4 BK175 HB; have HO_4 := n0_; have BK175 := n1_; have HB := n2_; have BK181 := n3_; have GW181 := n4_; have GE181 := n5_; have NB175_181 := n6_; have NB181_175 := n7_; clear n0_ n1_ n2_ n3_ n4_ n5_ n6_ n7_; clear hb hbox hg; have hnb27 := NB181_175.out; have hnc27 := NB175_181.out; obtain ⟨hcz28_0, hcz28_1, hfz28_0, hfz28_1⟩ := bx2_ BK181.out; obtain ⟨Ao29, co29, eo29⟩ := Kd.R_slice HO_4.out; subst eo29))
            go_ret2
            exact ⟨_, hV_, by first | exact Kd.R_nil _ _ _ _ _ | exact Kd.N_nil _ _ _ _ _ | exact Kd.V_nil _ _ _ _ _ | exact Kd.Q_nil _ _ _ _ _ | exact Kd.S_nil _ _ _ _ _, hC_⟩
          rw [if_neg c25] at H
          have c25b0 : decide ((x4_2.length : Int) ≤ ((rd_T29 l0_2 x24_2).f0)) = false := decide_eq_false c25
          clear c25
          replace H := Option.bind_eq_some_iff.mp H
          obtain ⟨t182, A300, H⟩ := H
          replace H : (if t182 = true then (if 0 ≤ ((rd_T29 l0_2 x24_2).f0) then (if ((rd_T29 l0_2 x24_2).f0) < (x4_2.length : Int) then (next_Marks.l0 k2 (x4_2.set (((rd_T29 l0_2 x24_2).f0) : Int).toNat ((rd_T29 l0_2 x24_2).f1)) l0_2 (l0_2.length : Int) (wrap64 (x24_2 + 1))) else (none)) else (none)) else (some (([] : List Int), 2000))) = some (r1, r2) := H
          have A30 := Aside0.mk A300
          clear A300
          by_cases c31 : t182 = true
          case neg =>
            replace c31 := Bool.eq_false_iff.mpr c31
            subst c31
            have H1 : (some (([] : List Int), 2000)) = some (r1, r2) := by rw [if_neg (show ¬ (false = true) by decide)] at H; exact H
            clear H
            have H := H1
            clear H1
            simp only [Option.some.injEq, Prod.mk.injEq] at H
            obtain ⟨rfl, rfl⟩ := H
            have p180 : 0 ≤ (x24_2 : Int) := of_decide_eq_true hA_
            have q180 : x24_2 < (l0_2.length : Int) := of_decide_eq_true hA_
            obtain ⟨ad180, e180, hx180_0, hx180_1⟩ := at_T29 HR0_2.out x24_2 p180 q180
            cases e180
            replace hx180_0 := cl_ HB.out hx180_0
            replace hx180_1 := cl_ HB.out hx180_1
            replace p180 := eq_true p180
            replace q180 := eq_true q180
            go_wp2_with (first | ((with_reducible refine gate_dst (N := 6) rfl ?_); (try (refine gate_guard (by rfl) ?_; dsimp only)); refine boxE_ 6 #[.int .i64 0, .int .i64 0] 29 ?_; intro gb181 hg w43 hbox hb; have n0_ := Aside0.mk (Kd.R_below (hR_ HO_4.out) hb); have n1_ := Aside0.mk (bB_ BK175.out hb); have n2_ := Aside0.mk (below_step hC_ hb); have n3_ := Aside0.mk (hbox); have n4_ := Aside0.mk ((gE_ hg : w.heap.size ≤ gb181)); have n5_ := Aside0.mk ((gE_ hg : w.heap.size ≤ gb181)); have n6_ := Aside0.mk ((bL_ BK175.out hg : gb175 ≠ gb181)); have n7_ := Aside0.mk ((bG_ BK175.out hg : gb181 ≠ gb175)); clear HO_4 BK175 HB; have HO_4 := n0_; have BK175 := n1_; have HB := n2_; have BK181 := n3_; have GW181 := n4_; have GE181 := n5_; have NB175_181 := n6_; have NB181_175 := n7_; clear n0_ n1_ n2_ n3_ n4_ n5_ n6_ n7_; clear hb hbox hg; have hnb44 := NB181_175.out; have hnc44 := NB175_181.out; obtain ⟨hcz45_0, hcz45_1, hfz45_0, hfz45_1⟩ := bx2_ BK181.out; obtain ⟨Ao46, co46, eo46⟩ := Kd.R_slice HO_4.out; subst eo46) | (go_at_call 12; (with_reducible refine (next_Mark.calls ((rd_T29 l0_2 x24_2).f1) false _ A30.out).mono ?_); rintro e w' ⟨rfl, ⟨nd, rfl⟩⟩))
            go_ret2
            exact ⟨_, hV_, by first | exact Kd.R_nil _ _ _ _ _ | exact Kd.N_nil _ _ _ _ _ | exact Kd.V_nil _ _ _ _ _ | exact Kd.Q_nil _ _ _ _ _ | exact Kd.S_nil _ _ _ _ _, hC_⟩
          subst c31
          have H1 : (if 0 ≤ ((rd_T29 l0_2 x24_2).f0) then (if ((rd_T29 l0_2 x24_2).f0) < (x4_2.length : Int) then (next_Marks.l0 k2 (x4_2.set (((rd_T29 l0_2 x24_2).f0) : Int).toNat ((rd_T29 l0_2 x24_2).f1)) l0_2 (l0_2.length : Int) (wrap64 (x24_2 + 1))) else (none)) else (none)) = some (r1, r2) := by rw [if_pos rfl] at H; exact H
          clear H
          have H := H1
          clear H1
          replace H := ifI_ H; obtain ⟨c32, H⟩ := H
          have c32b0 : decide (0 ≤ ((rd_T29 l0_2 x24_2).f0)) = true := decide_eq_true c32
          clear c32
          replace H := ifI_ H; obtain ⟨c33, H⟩ := H
          have c33b0 : decide (((rd_T29 l0_2 x24_2).f0) < (x4_2.length : Int)) = true := decide_eq_true c33
          clear c33
          obtain ⟨y183, hy183⟩ : ∃ y_ : List Int, y_ = (x4_2.set (((rd_T29 l0_2 x24_2).f0) : Int).toNat ((rd_T29 l0_2 x24_2).f1)) := ⟨_, rfl⟩
          replace H : (next_Marks.l0 k2 y183 l0_2 (l0_2.length : Int) (wrap64 (x24_2 + 1))) = some (r1, r2) := by first | (rw [hy183]; with_reducible exact H) | (have H2_ := (Option.bind_some _ _).symm.trans H; rw [hy183]; with_reducible exact H2_) | (have H2_ := (Option.bind_some _ _).symm.trans H; with_reducible exact H2_) | with_reducible exact H | (rw [hy183]; exact H) | exact H
          have Ny183 := Aside0.mk hy183
          clear hy183
          have H' := Aside0.mk H
          clear H
          have p180 : 0 ≤ (x24_2 : Int) := of_decide_eq_true hA_
          have q180 : x24_2 < (l0_2.length : Int) := of_decide_eq_true hA_
          obtain ⟨ad180, e180, hx180_0, hx180_1⟩ := at_T29 HR0_2.out x24_2 p180 q180
          cases e180
          replace hx180_0 := cl_ HB.out hx180_0
          replace hx180_1 := cl_ HB.out hx180_1
          replace p180 := eq_true p180
          replace q180 := eq_true q180
          go_wp2_with (first | ((with_reducible refine gate_dst (N := 6) rfl ?_); (try (refine gate_guard (by rfl) ?_; dsimp only)); refine boxE_ 6 #[.int .i64 0, .int .i64 0] 29 ?_; intro gb181 hg w35 hbox hb; have n0_ := Aside0.mk (Kd.R_below (hR_ HO_4.out) hb); have n1_ := Aside0.mk (bB_ BK175.out hb); have n2_ := Aside0.mk (below_step hC_ hb); have n3_ := Aside0.mk (hbox); have n4_ := Aside0.mk ((gE_ hg : w.heap.size ≤ gb181)); have n5_ := Aside0.mk ((gE_ hg : w.heap.size ≤ gb181)); have n6_ := Aside0.mk ((bL_ BK175.out hg : gb175 ≠ gb181)); have n7_ := Aside0.mk ((bG_ BK175.out hg : gb181 ≠ gb175)); clear HO_4 BK175 HB; have HO_4 := n0_; have BK175 := n1_; have HB := n2_; have BK181 := n3_; have GW181 := n4_; have GE181 := n5_; have NB175_181 := n6_; have NB181_175 := n7_; clear n0_ n1_ n2_ n3_ n4_ n5_ n6_ n7_; clear hb hbox hg; have hnb36 := NB181_175.out; have hnc36 := NB175_181.out; obtain ⟨hcz37_0, hcz37_1, hfz37_0, hfz37_1⟩ := bx2_ BK181.out) | ((with_reducible refine gate_store (t := 29) (p := 6) rfl ?_); refine store_event (t := 29) (p := 6) (v := ?vo_w38) (w1 := ((w35.setCell ⟨gb181, 0, none⟩ (.int .i64 ((rd_T29 l0_2 x24_2).f0))).setCell ⟨gb181, 1, none⟩ (.int .i64 ((rd_T29 l0_2 x24_2).f1)))) ?hg ?ho ?hn ?hr ?_; (case ho => rfl); (case hg => rfl); (case hn => rfl); (case hr => first | (go_simp; done) | (go_simp; rfl)); intro w38 hw; have n0_ : Aside0 (Kd.R (Kd.int .i64) 3 w38 w.heap.size (fun _ => True) v178 x4_2) := ⟨(by rw [hw]; exact (by (with_reducible repeat (first | apply Kd.R_alloc | apply Kd.R_drewN | apply Kd.R_drew)); exact Kd.R_mono (rF_ (rF_ (Kd.R_types HO_4.out BK181.out (by decide)))) (fun _ hk => trivial)))⟩; have n1_ : Aside0 (w38.heap[gb175]? = some (.cells #[.slice A0_0 l0_0.length c0_0, .int .i64 a0_1, .slice (some ad180) l0_2.length c0_2] 27 (0, 0))) := ⟨(by rw [hw]; exact (bF_ (bF_ (hK_ BK175.out) NB175_181.out) NB175_181.out))⟩; have n2_ : Aside0 (w38.heap[gb181]? = some (.cells #[.int .i64 ((rd_T29 l0_2 x24_2).f0), .int .i64 ((rd_T29 l0_2 x24_2).f1)] 29 (0, 0))) := ⟨(by rw [hw]; exact (bP_ (bP_ (hK_ BK181.out))))⟩; have n3_ : Aside0 (Below w.heap.size w w38) := ⟨(by rw [hw]; exact hC_)⟩; clear hw HO_4 BK175 BK181 HB; have HO_4 := n0_; have BK175 := n1_; have BK181 := n2_; have HB := n3_; clear n0_ n1_ n2_ n3_; obtain ⟨hcz39_0, hcz39_1, hfz39_0, hfz39_1⟩ := bx2_ BK181.out; obtain ⟨Ao40, co40, eo40⟩ := Kd.R_slice HO_4.out; subst eo40) | (go_at_call 12; (with_reducible refine (next_Mark.calls ((rd_T29 l0_2 x24_2).f1) true _ A30.out).mono ?_); rintro e w' ⟨rfl, ⟨nd, rfl⟩⟩; (try (rw [drewN_self w38]; generalize hq_ : World.drewN w38 _ = w38; have n0_ : Aside0 (Kd.R (Kd.int .i64) 3 w38 w.heap.size (fun _ => True) (.slice Ao40 x4_2.length co40) x4_2) := ⟨by rw [← hq_]; exact (hR_ HO_4.out)⟩; have n1_ : Aside0 (w38.heap[gb175]? = some (.cells #[.slice A0_0 l0_0.length c0_0, .int .i64 a0_1, .slice (some ad180) l0_2.length c0_2] 27 (0, 0))) := ⟨by rw [← hq_]; exact (hK_ BK175.out)⟩; have n2_ : Aside0 (w38.heap[gb181]? = some (.cells #[.int .i64 ((rd_T29 l0_2 x24_2).f0), .int .i64 ((rd_T29 l0_2 x24_2).f1)] 29 (0, 0))) := ⟨by rw [← hq_]; exact (hK_ BK181.out)⟩; have n3_ : Aside0 (Below w.heap.size w w38) := ⟨by rw [← hq_]; exact hC_⟩; clear HO_4 BK175 BK181 HB hq_; have HO_4 := n0_; have BK175 := n1_; have BK181 := n2_; have HB := n3_; clear n0_ n1_ n2_ n3_; (try have hcu0_0 := bc0_ BK175.out); (try have hfu0_0 := blk_frozen BK175.out 0); (try have hcu0_1 := bc1_ BK175.out); (try have hfu0_1 := blk_frozen BK175.out 1); (try have hcu0_2 := bc2_ BK175.out); (try have hfu0_2 := blk_frozen BK175.out 2); (try have hcu1_0 := bc0_ BK181.out); (try have hfu1_0 := blk_frozen BK181.out 0); (try have hcu1_1 := bc1_ BK181.out); (try have hfu1_1 := blk_frozen BK181.out 1))); have p34 : 0 ≤ (((rd_T29 l0_2 x24_2).f0) : Int) := of_decide_eq_true hA_; have q34 : (((rd_T29 l0_2 x24_2).f0) : Int) < ((x4_2.length : Int) : Int) := of_decide_eq_true hA_; obtain ⟨go34, co34, eo34, gb34, gl34, cl34, HG34⟩ := Kd.R_form HO_4.out (by omega); (first | cases eo34 | (injection eo34 with ea_ en_ ec_; (first | subst ea_ | (injection ea_ with ea_; subst ea_)); subst ec_; clear en_)); have GB34 := Aside0.mk gb34; have GG34 := Aside0.mk HG34; clear gb34 gl34 HG34; obtain ⟨hx34_0, hf34_0⟩ := Kd.R_celln 0 HO_4.out (((rd_T29 l0_2 x24_2).f0) : Int) p34 q34; replace p34 := eq_true p34; replace q34 := eq_true q34; obtain ⟨hy41_, hz41_⟩ := Kd.R_celln 0 HO_4.out (((rd_T29 l0_2 x24_2).f0) : Int) (of_decide_eq_true hA_) (of_decide_eq_true hA_); have HP41 := Kd.R_putg HO_4.out (((rd_T29 l0_2 x24_2).f0) : Int) ((rd_T29 l0_2 x24_2).f1)) | ((with_reducible refine gate_store (t := 3) (p := 49) rfl ?_); refine store_event (t := 3) (p := 49) (v := ?vo_w42) (w1 := (w38.setCell ⟨go34, (((rd_T29 l0_2 x24_2).f0) : Int).toNat, none⟩ (.int .i64 ((rd_T29 l0_2 x24_2).f1)))) ?hg ?ho ?hn ?hr ?_; (case ho => rfl); (case hg => rfl); (case hn => rfl); (case hr => first | (go_simp; done) | (go_simp; rfl)); intro w42 hw; have hg : w38.grownBy w42 (some go34) := (by rw [hw]; exact HP41.2); have hp_ : Kd.R (Kd.int .i64) 3 w42 w.heap.size (fun _ => True) (.slice (some ⟨go34, 0, none⟩) x4_2.length co40) y183 := (by rw [hw, Ny183.out]; exact HP41.1); clear HP41; have n0_ := Aside0.mk (hp_); have n1_ := Aside0.mk (blk_grown (hK_ BK175.out) hg (Kd.R_ne HO_4.out BK175.out (by decide))); have n2_ := Aside0.mk (blk_grown (hK_ BK181.out) hg (Kd.R_ne HO_4.out BK181.out (by decide))); have n3_ := Aside0.mk ((by rw [hw]; exact below_set (HB.out) GB34.out : Below w.heap.size w w42)); clear HO_4 BK175 BK181 HB; have HO_4 := n0_; have BK175 := n1_; have BK181 := n2_; have HB := n3_; clear n0_ n1_ n2_ n3_; clear hg hw hp_))
          go_roundg k2
          case measure => have := HJ1.out; have := HK2.out; omega
          case rel => exact ⟨(y183), (wrap64 (x24_2 + 1)), hW_, H', ⟨by have := HJ1.out; have := HK2.out; omega⟩, ⟨hR_ HO_4.out⟩, ⟨(hK_ BK175.out)⟩, ⟨hC_⟩⟩
end Go.Proofs.YtbnljapgnfmmoaaDoor.G
end
section
-- Laid by the session's own driver gp.py over the kit's printer. Not trusted: Lean checks it.
namespace Go.Proofs.YtbnljapgnfmmoaaDoor.G
open Go.RowKit Go.Proofs.YtbnljapgnfmmoaaDoorW.PrintWords Go.Proofs.YtbnljapgnfmmoaaDoorW.PrintLast Go.Proofs.YtbnljapgnfmmoaaDoorW.PrintMore
attribute [local go_sem] max2_int min2_int max_two min_two max_three min_three max_four min_four   -- for this text's walks alone
set_option linter.unusedVariables false
set_option linter.unusedSimpArgs false

/-! ### next_Step: function 13 -/
def next_Step.f (k : Nat) (l0_0 : List (S41)) (a0_1 : Int) (l0_2 : List (S29)) : Option (Int × Int × Int) := (next_Marks.f k l0_0 a0_1 l0_2).bind fun bt186 => (if bt186.2 = 0 then ((next_Way.f a0_1).bind fun t190 => (if t190 = true then ((next_Ask.f k a0_1 l0_0 bt186.1).bind fun bt191 => (some (bt191.1, bt191.2, 0))) else (some (0, 0, 2000)))) else (some (0, 0, 2000)))
theorem next_Step.mono : ∀ a0 a1 a2 k, LeO (next_Step.f k a0 a1 a2) (next_Step.f (k + 1) a0 a1 a2) := by
  intro a0 a1 a2 k
  unfold next_Step.f
  repeat' first
      | (with_reducible exact next_Ask.mono _ _ _ _)
      | (with_reducible exact next_Marks.mono _ _ _ _)
      | (with_reducible exact LeO.refl _)
      | (with_reducible exact LeO.none _)
      | (with_reducible refine LeO.ite ?_ ?_)
      | (with_reducible refine LeO.bind ?_ (fun _ => ?_))
      | exact next_Ask.mono _ _ _ _
      | exact next_Marks.mono _ _ _ _
      | exact LeO.none _
      | refine LeO.ite ?_ ?_
      | refine LeO.bind ?_ (fun _ => ?_)
set_option maxHeartbeats 8000000 in
set_option maxRecDepth 100000 in
theorem next_Step.calls (k : Nat) (A0_0 : Option Addr) (c0_0 : Nat) (l0_0 : List (S41)) (a0_1 : Int) (A0_2 : Option Addr) (c0_2 : Nat) (l0_2 : List (S29)) (r1 : Int) (r2 : Int) (r3 : Int) (w : World) (hr0_0 : Kd.C k41 w A0_0 l0_0.length l0_0) (hc0_0 : l0_0.length ≤ c0_0) (hr0_2 : Kd.C k29 w A0_2 l0_2.length l0_2) (hc0_2 : l0_2.length ≤ c0_2) (h : next_Step.f k l0_0 a0_1 l0_2 = some (r1, r2, r3)) (hG : GOK w) :
    Calls Tryd.prog 13 #[.agg #[.slice A0_0 l0_0.length c0_0, .int .i64 a0_1, .slice A0_2 l0_2.length c0_2]] w fun e w' => e = .returned (.tuple #[.agg #[.int .i64 r1, .int .i64 r2], .int .i64 r3]) ∧ Below w.heap.size w w' := by
  have hu27 := Tryd.underlying27
  have hu45 := Tryd.underlying45
  have HR0_0 := Aside0.mk hr0_0
  have HC0_0 := Aside0.mk hc0_0
  clear hr0_0 hc0_0
  have HR0_2 := Aside0.mk hr0_2
  have HC0_2 := Aside0.mk hc0_2
  clear hr0_2 hc0_2
  have HB := Aside0.mk (Below.refl w.heap.size w)
  have H : ((next_Marks.f k l0_0 a0_1 l0_2).bind fun bt186 => (if bt186.2 = 0 then ((next_Way.f a0_1).bind fun t190 => (if t190 = true then ((next_Ask.f k a0_1 l0_0 bt186.1).bind fun bt191 => (some (bt191.1, bt191.2, 0))) else (some (0, 0, 2000)))) else (some (0, 0, 2000)))) = some (r1, r2, r3) := h
  clear h
  replace H := Option.bind_eq_some_iff.mp H
  obtain ⟨⟨t186, t189⟩, A20, H⟩ := H
  replace H : (if t189 = 0 then ((next_Way.f a0_1).bind fun t190 => (if t190 = true then ((next_Ask.f k a0_1 l0_0 t186).bind fun bt191 => (some (bt191.1, bt191.2, 0))) else (some (0, 0, 2000)))) else (some (0, 0, 2000))) = some (r1, r2, r3) := H
  have A2 := Aside0.mk A20
  clear A20
  by_cases c3 : t189 = 0
  case neg =>
    rw [if_neg c3] at H
    have c3b0 : (t189 == 0) = false := beq_eq_false_iff_ne.mpr c3
    have c3b1 : (t189 != 0) = true := bne_iff_ne.mpr c3
    simp only [Option.some.injEq, Prod.mk.injEq] at H
    obtain ⟨rfl, rfl, rfl⟩ := H
    go_enter Tryd.func13, Tryd.ntmps13
    go_wp2_with (first | ((with_reducible refine gate_dst (N := 1) rfl ?_); refine boxE_ 1 #[.slice A0_0 l0_0.length c0_0, .int .i64 a0_1, .slice A0_2 l0_2.length c0_2] 27 ?_; intro gb184 hg w23 hbox hb; have n0_ := Aside0.mk (below_step hB_ hb); have n1_ := Aside0.mk (hbox); have n2_ := Aside0.mk ((gE_ hg : w.heap.size ≤ gb184)); have n3_ := Aside0.mk ((gE_ hg : w.heap.size ≤ gb184)); clear HB; have HB := n0_; have BK184 := n1_; have GW184 := n2_; have GE184 := n3_; clear n0_ n1_ n2_ n3_; clear hb hbox hg) | ((with_reducible refine gate_dst (N := 2) rfl ?_); refine boxE_ 2 #[.int .i64 0, .int .i64 0] 45 ?_; intro gb185 hg w24 hbox hb; have n0_ := Aside0.mk (bB_ BK184.out hb); have n1_ := Aside0.mk (below_step hC_ hb); have n2_ := Aside0.mk (hbox); have n3_ := Aside0.mk ((gE_ hg : w.heap.size ≤ gb185)); have n4_ := Aside0.mk ((gE_ hg : w.heap.size ≤ gb185)); have n5_ := Aside0.mk ((bL_ BK184.out hg : gb184 ≠ gb185)); have n6_ := Aside0.mk ((bG_ BK184.out hg : gb185 ≠ gb184)); clear BK184 HB; have BK184 := n0_; have HB := n1_; have BK185 := n2_; have GW185 := n3_; have GE185 := n4_; have NB184_185 := n5_; have NB185_184 := n6_; clear n0_ n1_ n2_ n3_ n4_ n5_ n6_; clear hb hbox hg; have hnb25 := NB184_185.out; have hnc25 := NB185_184.out; obtain ⟨hcz26_0, hcz26_1, hcz26_2, hfz26_0, hfz26_1, hfz26_2⟩ := bx3_ BK184.out) | ((with_reducible refine gate_callee (f := 18) rfl ?_); refine goesL_ (some 8) rfl rfl Tryd.func18 (by kernel_rfl) rfl #[.agg #[.slice A0_0 l0_0.length c0_0, .int .i64 a0_1, .slice A0_2 l0_2.length c0_2]] rfl hL_ ?_; (with_reducible refine (next_Marks.calls k _ _ l0_0 a0_1 _ _ l0_2 t186 t189 _ ?side1 ?side2 ?side3 ?side4 A2.out (by first | exact hG | exact GOK.below hG hC_)).mono ?_); (case side1 => exact cB_ HR0_0.out); (case side2 => exact HC0_0.out); (case side3 => exact cB_ HR0_2.out); (case side4 => exact HC0_2.out); rintro e w27 ⟨v187, rfl, ho0, hb⟩; refine ⟨_, rfl, ?_⟩; have n0_ := Aside0.mk (Kd.R_lower ho0 (below_size hC_)); have n1_ := Aside0.mk (bB_ BK184.out hb); have n2_ := Aside0.mk (bB_ BK185.out hb); have n3_ := Aside0.mk (below_step hC_ hb); clear BK184 BK185 HB; have HO188 := n0_; have BK184 := n1_; have BK185 := n2_; have HB := n3_; clear n0_ n1_ n2_ n3_; (try clear hb); (try clear hb2); (try clear hk); (try clear hi); (try clear ho0); obtain ⟨hcz28_0, hcz28_1, hfz28_0, hfz28_1⟩ := bx2_ BK185.out))
    refine bodyPost_ret (results_ct rfl _ _ gb185 45 #[.int .i64 0, .int .i64 0] (0, 0) _ rfl (bP_ (bP_ (hK_ BK185.out))) Tryd.underlying45 rfl (by kernel_rfl)) rfl ?_
    exact ⟨hV_, hC_⟩

  rw [if_pos c3] at H
  have c3b0 : (t189 == 0) = true := beq_iff_eq.mpr c3
  have c3b1 : (t189 != 0) = false := bne_eq_false_iff_eq.mpr c3
  clear c3
  replace H := Option.bind_eq_some_iff.mp H
  obtain ⟨t190, A40, H⟩ := H
  replace H : (if t190 = true then ((next_Ask.f k a0_1 l0_0 t186).bind fun bt191 => (some (bt191.1, bt191.2, 0))) else (some (0, 0, 2000))) = some (r1, r2, r3) := H
  have A4 := Aside0.mk A40
  clear A40
  by_cases c5 : t190 = true
  case neg =>
    replace c5 := Bool.eq_false_iff.mpr c5
    subst c5
    have H1 : (some (0, 0, 2000)) = some (r1, r2, r3) := by rw [if_neg (show ¬ (false = true) by decide)] at H; exact H
    clear H
    have H := H1
    clear H1
    simp only [Option.some.injEq, Prod.mk.injEq] at H
    obtain ⟨rfl, rfl, rfl⟩ := H
    go_enter Tryd.func13, Tryd.ntmps13
    go_wp2_with (first | ((with_reducible refine gate_dst (N := 1) rfl ?_); refine boxE_ 1 #[.slice A0_0 l0_0.length c0_0, .int .i64 a0_1, .slice A0_2 l0_2.length c0_2] 27 ?_; intro gb184 hg w16 hbox hb; have n0_ := Aside0.mk (below_step hB_ hb); have n1_ := Aside0.mk (hbox); have n2_ := Aside0.mk ((gE_ hg : w.heap.size ≤ gb184)); have n3_ := Aside0.mk ((gE_ hg : w.heap.size ≤ gb184)); clear HB; have HB := n0_; have BK184 := n1_; have GW184 := n2_; have GE184 := n3_; clear n0_ n1_ n2_ n3_; clear hb hbox hg) | ((with_reducible refine gate_dst (N := 2) rfl ?_); refine boxE_ 2 #[.int .i64 0, .int .i64 0] 45 ?_; intro gb185 hg w17 hbox hb; have n0_ := Aside0.mk (bB_ BK184.out hb); have n1_ := Aside0.mk (below_step hC_ hb); have n2_ := Aside0.mk (hbox); have n3_ := Aside0.mk ((gE_ hg : w.heap.size ≤ gb185)); have n4_ := Aside0.mk ((gE_ hg : w.heap.size ≤ gb185)); have n5_ := Aside0.mk ((bL_ BK184.out hg : gb184 ≠ gb185)); have n6_ := Aside0.mk ((bG_ BK184.out hg : gb185 ≠ gb184)); clear BK184 HB; have BK184 := n0_; have HB := n1_; have BK185 := n2_; have GW185 := n3_; have GE185 := n4_; have NB184_185 := n5_; have NB185_184 := n6_; clear n0_ n1_ n2_ n3_ n4_ n5_ n6_; clear hb hbox hg; have hnb18 := NB184_185.out; have hnc18 := NB185_184.out; obtain ⟨hcz19_0, hcz19_1, hcz19_2, hfz19_0, hfz19_1, hfz19_2⟩ := bx3_ BK184.out) | ((with_reducible refine gate_callee (f := 18) rfl ?_); refine goesL_ (some 8) rfl rfl Tryd.func18 (by kernel_rfl) rfl #[.agg #[.slice A0_0 l0_0.length c0_0, .int .i64 a0_1, .slice A0_2 l0_2.length c0_2]] rfl hL_ ?_; (with_reducible refine (next_Marks.calls k _ _ l0_0 a0_1 _ _ l0_2 t186 t189 _ ?side1 ?side2 ?side3 ?side4 A2.out (by first | exact hG | exact GOK.below hG hC_)).mono ?_); (case side1 => exact cB_ HR0_0.out); (case side2 => exact HC0_0.out); (case side3 => exact cB_ HR0_2.out); (case side4 => exact HC0_2.out); rintro e w20 ⟨v187, rfl, ho0, hb⟩; refine ⟨_, rfl, ?_⟩; have n0_ := Aside0.mk (Kd.R_lower ho0 (below_size hC_)); have n1_ := Aside0.mk (bB_ BK184.out hb); have n2_ := Aside0.mk (bB_ BK185.out hb); have n3_ := Aside0.mk (below_step hC_ hb); clear BK184 BK185 HB; have HO188 := n0_; have BK184 := n1_; have BK185 := n2_; have HB := n3_; clear n0_ n1_ n2_ n3_; (try clear hb); (try clear hb2); (try clear hk); (try clear hi); (try clear ho0); obtain ⟨hcz21_0, hcz21_1, hcz21_2, hfz21_0, hfz21_1, hfz21_2⟩ := bx3_ BK184.out) | (go_at_call 19; (with_reducible refine (next_Way.calls a0_1 false _ A4.out).mono ?_); rintro e w' ⟨rfl, ⟨nd, rfl⟩⟩; (try (rw [drewN_self w20]; generalize hq_ : World.drewN w20 _ = w20; have n0_ : Aside0 (Kd.R (Kd.int .i64) 3 w20 w.heap.size (fun _ => True) v187 t186) := ⟨by rw [← hq_]; exact (hR_ HO188.out)⟩; have n1_ : Aside0 (w20.heap[gb184]? = some (.cells #[.slice A0_0 l0_0.length c0_0, .int .i64 a0_1, .slice A0_2 l0_2.length c0_2] 27 (0, 0))) := ⟨by rw [← hq_]; exact (hK_ BK184.out)⟩; have n2_ : Aside0 (w20.heap[gb185]? = some (.cells #[.int .i64 0, .int .i64 0] 45 (0, 0))) := ⟨by rw [← hq_]; exact (hK_ BK185.out)⟩; have n3_ : Aside0 (Below w.heap.size w w20) := ⟨by rw [← hq_]; exact hC_⟩; clear HO188 BK184 BK185 HB hq_; have HO188 := n0_; have BK184 := n1_; have BK185 := n2_; have HB := n3_; clear n0_ n1_ n2_ n3_; (try have hcu0_0 := bc0_ BK184.out); (try have hfu0_0 := blk_frozen BK184.out 0); (try have hcu0_1 := bc1_ BK184.out); (try have hfu0_1 := blk_frozen BK184.out 1); (try have hcu0_2 := bc2_ BK184.out); (try have hfu0_2 := blk_frozen BK184.out 2); (try have hcu1_0 := bc0_ BK185.out); (try have hfu1_0 := blk_frozen BK185.out 0); (try have hcu1_1 := bc1_ BK185.out); (try have hfu1_1 := blk_frozen BK185.out 1))); obtain ⟨hcz22_0, hcz22_1, hfz22_0, hfz22_1⟩ := bx2_ BK185.out))
    refine bodyPost_ret (results_ct rfl _ _ gb185 45 #[.int .i64 0, .int .i64 0] (0, 0) _ rfl (bP_ (bP_ (hK_ BK185.out))) Tryd.underlying45 rfl (by kernel_rfl)) rfl ?_
    exact ⟨hV_, hC_⟩
  subst c5
  have H1 : ((next_Ask.f k a0_1 l0_0 t186).bind fun bt191 => (some (bt191.1, bt191.2, 0))) = some (r1, r2, r3) := by rw [if_pos rfl] at H; exact H
  clear H
  have H := H1
  clear H1
  replace H := Option.bind_eq_some_iff.mp H
  obtain ⟨⟨t191, t192⟩, A60, H⟩ := H
  replace H : (some (t191, t192, 0)) = some (r1, r2, r3) := H
  have A6 := Aside0.mk A60
  clear A60
  simp only [Option.some.injEq, Prod.mk.injEq] at H
  obtain ⟨rfl, rfl, rfl⟩ := H
  go_enter Tryd.func13, Tryd.ntmps13
  go_wp2_with (first | ((with_reducible refine gate_dst (N := 1) rfl ?_); refine boxE_ 1 #[.slice A0_0 l0_0.length c0_0, .int .i64 a0_1, .slice A0_2 l0_2.length c0_2] 27 ?_; intro gb184 hg w7 hbox hb; have n0_ := Aside0.mk (below_step hB_ hb); have n1_ := Aside0.mk (hbox); have n2_ := Aside0.mk ((gE_ hg : w.heap.size ≤ gb184)); have n3_ := Aside0.mk ((gE_ hg : w.heap.size ≤ gb184)); clear HB; have HB := n0_; have BK184 := n1_; have GW184 := n2_; have GE184 := n3_; clear n0_ n1_ n2_ n3_; clear hb hbox hg) | ((with_reducible refine gate_dst (N := 2) rfl ?_); refine boxE_ 2 #[.int .i64 0, .int .i64 0] 45 ?_; intro gb185 hg w8 hbox hb; have n0_ := Aside0.mk (bB_ BK184.out hb); have n1_ := Aside0.mk (below_step hC_ hb); have n2_ := Aside0.mk (hbox); have n3_ := Aside0.mk ((gE_ hg : w.heap.size ≤ gb185)); have n4_ := Aside0.mk ((gE_ hg : w.heap.size ≤ gb185)); have n5_ := Aside0.mk ((bL_ BK184.out hg : gb184 ≠ gb185)); have n6_ := Aside0.mk ((bG_ BK184.out hg : gb185 ≠ gb184)); clear BK184 HB; have BK184 := n0_; have HB := n1_; have BK185 := n2_; have GW185 := n3_; have GE185 := n4_; have NB184_185 := n5_; have NB185_184 := n6_; clear n0_ n1_ n2_ n3_ n4_ n5_ n6_; clear hb hbox hg; have hnb9 := NB184_185.out; have hnc9 := NB185_184.out; obtain ⟨hcz10_0, hcz10_1, hcz10_2, hfz10_0, hfz10_1, hfz10_2⟩ := bx3_ BK184.out) | ((with_reducible refine gate_callee (f := 18) rfl ?_); refine goesL_ (some 8) rfl rfl Tryd.func18 (by kernel_rfl) rfl #[.agg #[.slice A0_0 l0_0.length c0_0, .int .i64 a0_1, .slice A0_2 l0_2.length c0_2]] rfl hL_ ?_; (with_reducible refine (next_Marks.calls k _ _ l0_0 a0_1 _ _ l0_2 t186 t189 _ ?side1 ?side2 ?side3 ?side4 A2.out (by first | exact hG | exact GOK.below hG hC_)).mono ?_); (case side1 => exact cB_ HR0_0.out); (case side2 => exact HC0_0.out); (case side3 => exact cB_ HR0_2.out); (case side4 => exact HC0_2.out); rintro e w11 ⟨v187, rfl, ho0, hb⟩; refine ⟨_, rfl, ?_⟩; have n0_ := Aside0.mk (Kd.R_lower ho0 (below_size hC_)); have n1_ := Aside0.mk (bB_ BK184.out hb); have n2_ := Aside0.mk (bB_ BK185.out hb); have n3_ := Aside0.mk (below_step hC_ hb); clear BK184 BK185 HB; have HO188 := n0_; have BK184 := n1_; have BK185 := n2_; have HB := n3_; clear n0_ n1_ n2_ n3_; (try clear hb); (try clear hb2); (try clear hk); (try clear hi); (try clear ho0); obtain ⟨hcz12_0, hcz12_1, hcz12_2, hfz12_0, hfz12_1, hfz12_2⟩ := bx3_ BK184.out) | (go_at_call 19; (with_reducible refine (next_Way.calls a0_1 true _ A4.out).mono ?_); rintro e w' ⟨rfl, ⟨nd, rfl⟩⟩; (try (rw [drewN_self w11]; generalize hq_ : World.drewN w11 _ = w11; have n0_ : Aside0 (Kd.R (Kd.int .i64) 3 w11 w.heap.size (fun _ => True) v187 t186) := ⟨by rw [← hq_]; exact (hR_ HO188.out)⟩; have n1_ : Aside0 (w11.heap[gb184]? = some (.cells #[.slice A0_0 l0_0.length c0_0, .int .i64 a0_1, .slice A0_2 l0_2.length c0_2] 27 (0, 0))) := ⟨by rw [← hq_]; exact (hK_ BK184.out)⟩; have n2_ : Aside0 (w11.heap[gb185]? = some (.cells #[.int .i64 0, .int .i64 0] 45 (0, 0))) := ⟨by rw [← hq_]; exact (hK_ BK185.out)⟩; have n3_ : Aside0 (Below w.heap.size w w11) := ⟨by rw [← hq_]; exact hC_⟩; clear HO188 BK184 BK185 HB hq_; have HO188 := n0_; have BK184 := n1_; have BK185 := n2_; have HB := n3_; clear n0_ n1_ n2_ n3_; (try have hcu0_0 := bc0_ BK184.out); (try have hfu0_0 := blk_frozen BK184.out 0); (try have hcu0_1 := bc1_ BK184.out); (try have hfu0_1 := blk_frozen BK184.out 1); (try have hcu0_2 := bc2_ BK184.out); (try have hfu0_2 := blk_frozen BK184.out 2); (try have hcu1_0 := bc0_ BK185.out); (try have hfu1_0 := blk_frozen BK185.out 0); (try have hcu1_1 := bc1_ BK185.out); (try have hfu1_1 := blk_frozen BK185.out 1))); obtain ⟨Ao13, co13, eo13⟩ := Kd.R_slice HO188.out; subst eo13) | ((with_reducible refine gate_callee (f := 17) rfl ?_); refine goesL_ (some 25) rfl rfl Tryd.func17 (by kernel_rfl) rfl #[.int .i64 a0_1, .slice A0_0 l0_0.length c0_0, .slice Ao13 t186.length co13] rfl hL_ ?_; (with_reducible refine (next_Ask.calls k a0_1 _ _ l0_0 _ _ t186 t191 t192 _ ?side1 ?side2 ?side3 ?side4 A6.out (by first | exact hG | exact GOK.below hG hC_)).mono ?_); (case side1 => exact cB_ HR0_0.out); (case side2 => exact HC0_0.out); (case side3 => exact cC_ (Kd.R_reads' HO188.out).2.2); (case side4 => exact (Kd.R_reads' HO188.out).2.1); rintro e w14 ⟨rfl, hb⟩; refine ⟨_, rfl, ?_⟩; have n0_ := Aside0.mk (Kd.R_below (hR_ HO188.out) hb); have n1_ := Aside0.mk (bB_ BK184.out hb); have n2_ := Aside0.mk (bB_ BK185.out hb); have n3_ := Aside0.mk (below_step hC_ hb); clear HO188 BK184 BK185 HB; have HO188 := n0_; have BK184 := n1_; have BK185 := n2_; have HB := n3_; clear n0_ n1_ n2_ n3_; (try clear hb); (try clear hb2); (try clear hk); (try clear hi); obtain ⟨hcz15_0, hcz15_1, hfz15_0, hfz15_1⟩ := bx2_ BK185.out))
  refine bodyPost_ret (results_ct rfl _ _ gb185 45 #[.int .i64 t191, .int .i64 t192] (0, 0) _ rfl (bP_ (bP_ (hK_ BK185.out))) Tryd.underlying45 rfl (by kernel_rfl)) rfl ?_
  exact ⟨hV_, hC_⟩
end Go.Proofs.YtbnljapgnfmmoaaDoor.G
end
section
-- Laid by the session's own driver gp.py over the kit's printer. Not trusted: Lean checks it.
namespace Go.Proofs.YtbnljapgnfmmoaaDoor.G
open Go.RowKit Go.Proofs.YtbnljapgnfmmoaaDoorW.PrintWords Go.Proofs.YtbnljapgnfmmoaaDoorW.PrintLast Go.Proofs.YtbnljapgnfmmoaaDoorW.PrintMore
attribute [local go_sem] max2_int min2_int max_two min_two max_three min_three max_four min_four   -- for this text's walks alone
set_option linter.unusedVariables false
set_option linter.unusedSimpArgs false

/-! ### session_fresh: function 16, given -/
def session_fresh.f (k : Nat) (l0 : List S41) (a1 : Int) : Option Bool := (trail_May.f k l0).bind fun t => if t = true then next_Way.f a1 else some false
theorem session_fresh.mono : ∀ a0 a1 k, LeO (session_fresh.f k a0 a1) (session_fresh.f (k + 1) a0 a1) := by
  intro a0 a1 k
  unfold session_fresh.f
  exact LeO.bind (trail_May.mono _ _) (fun _ => LeO.refl _)
theorem session_fresh.true_spec {k : Nat} {l0 : List S41} {a1 : Int} (h : session_fresh.f k l0 a1 = some true) : 0 < l0.length ∧ l0.length ≤ 512 := by
  unfold session_fresh.f at h
  obtain ⟨t, h1, h⟩ := Option.bind_eq_some_iff.mp h
  cases t with
  | false => simp at h
  | true => have := trail_May.true_spec h1; exact ⟨this.1, this.2.1⟩
set_option maxHeartbeats 4000000 in
set_option maxRecDepth 100000 in
theorem session_fresh.calls (k : Nat) (ad : Addr) (A0 : Option Addr) (c0 : Nat) (l0 : List S41) (a1 : Int) (r : Bool) (w : World) (h0 : w.cell? ad = some (.slice A0 l0.length c0)) (h1 : w.cell? ⟨ad.block, ad.off + 1, none⟩ = some (.int .i64 a1)) (hr0 : Kd.C k41 w A0 l0.length l0) (hc0 : l0.length ≤ c0) (h : session_fresh.f k l0 a1 = some r) (hG : GOK w) :
    Calls Tryd.prog 16 #[.pointer (some ad)] w fun e w' => e = .returned (.bool r) ∧ Below w.heap.size w w' := by
  have HR0 := Aside0.mk hr0
  have HC0 := Aside0.mk hc0
  unfold session_fresh.f at h
  obtain ⟨t, A1, h⟩ := Option.bind_eq_some_iff.mp h
  have HA := Aside0.mk A1
  have H1 := Aside0.mk h1
  clear A1 hr0 hc0 h1
  cases t with
  | false =>
    rw [if_neg Bool.false_ne_true] at h
    obtain rfl := Option.some.inj h
    go_enter Tryd.func16, Tryd.ntmps16
    go_wp2_with (first
      | (go_at_call 24; (with_reducible refine (trail_May.calls k _ _ l0 false _ HR0.out HC0.out HA.out (by first | exact hG)).mono ?_); rintro e w6 ⟨rfl, hb⟩; have HB := Aside0.mk hb; clear hb))
    go_ret
    exact ⟨rfl, HB.out⟩
  | true =>
    rw [if_pos rfl] at h
    have HW := Aside0.mk h
    clear h
    go_enter Tryd.func16, Tryd.ntmps16
    go_wp2_with (first
      | (go_at_call 24; (with_reducible refine (trail_May.calls k _ _ l0 true _ HR0.out HC0.out HA.out (by first | exact hG)).mono ?_); rintro e w6 ⟨rfl, hb⟩; have HB := Aside0.mk hb; have h1 := (hb.cell (World.block_lt_of_cell? w _ H1.out)).trans H1.out; clear hb)
      | (go_at_call 19; (with_reducible refine (next_Way.calls a1 r _ HW.out).mono ?_); rintro e w7 ⟨rfl, ⟨nd, rfl⟩⟩))
    go_ret
    exact ⟨rfl, below_dn HB.out _⟩

end Go.Proofs.YtbnljapgnfmmoaaDoor.G
end
