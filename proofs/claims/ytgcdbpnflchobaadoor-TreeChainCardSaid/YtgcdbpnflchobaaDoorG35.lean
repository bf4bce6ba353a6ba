-- Laid by the session's own driver gp.py over the kit's printer. Not trusted: Lean checks it.
import Derived.Test.YtgcdbpnflchobaaDoorBase
import Derived.Test.YtgcdbpnflchobaaDoorGK
import Derived.Test.YtgcdbpnflchobaaDoorGS
import Derived.Test.YtgcdbpnflchobaaDoorGN
import Derived.Test.YtgcdbpnflchobaaDoorG31
namespace Go.Proofs.YtgcdbpnflchobaaDoor.G
open Go.RowKit Go.Proofs.YtgcdbpnflchobaaDoorW.PrintWords Go.Proofs.YtgcdbpnflchobaaDoorW.PrintLast Go.Proofs.YtgcdbpnflchobaaDoorW.PrintMore
attribute [local go_sem] max2_int min2_int max_two min_two max_three min_three max_four min_four   -- for this text's walks alone
set_option linter.unusedVariables false
set_option linter.unusedSimpArgs false

/-! ### sleuthlaw13_TreeAll: function 6 -/
mutual
def sleuthlaw13_TreeAll.l0 : Nat → List (S44) → List Int → Int → Option (Bool)
  | 0, _, _, _ => none
  | k + 1, x0, x3, x4 => if x4 < (x0.length : Int) then ((tree_Kids.f k x0 x4).bind fun bt421 => ((sleuthlaw0_Num.f bt421.2).bind fun t425 => (if t425 = 0 then (sleuthlaw13_TreeAll.l1 k x0 x3 x4 bt421.1 0) else (some false)))) else (sleuthlaw13_TreeAll.l2 k x0 x3 0)
def sleuthlaw13_TreeAll.l1 : Nat → List (S44) → List Int → Int → List Int → Int → Option (Bool)
  | 0, _, _, _, _, _ => none
  | k + 1, x0, x3, x4, x5, x7 => if x7 < (x5.length : Int) then (if 0 ≤ x7 then (if (rd x5 x7) ≤ x4 then (some false) else (if (rd x5 x7) ≥ (x0.length : Int) then (some false) else (if 0 ≤ (rd x5 x7) then (if (rd x5 x7) < (x0.length : Int) then (if ((rd_T44 x0 (rd x5 x7)).f1) = x4 then (if (rd x5 x7) < (x3.length : Int) then (sleuthlaw13_TreeAll.l1 k x0 (x3.set ((rd x5 x7) : Int).toNat (wrap64 ((rd x3 (rd x5 x7)) + 1))) x4 x5 (wrap64 (x7 + 1))) else (none)) else (some false)) else (none)) else (none)))) else (none)) else (sleuthlaw13_TreeAll.l0 k x0 x3 (wrap64 (x4 + 1)))
def sleuthlaw13_TreeAll.l2 : Nat → List (S44) → List Int → Int → Option (Bool)
  | 0, _, _, _ => none
  | k + 1, x0, x3, x8 => if x8 < (x0.length : Int) then (if 0 ≤ x8 then (if x8 < (x3.length : Int) then (if (rd x3 x8) = (mn x8 1) then (sleuthlaw13_TreeAll.l2 k x0 x3 (wrap64 (x8 + 1))) else (some false)) else (none)) else (none)) else (some true)
end
def sleuthlaw13_TreeAll.f (k : Nat) (l0 : List (S44)) : Option (Bool) := (sleuthlaw13_awake.f k).bind fun t416 => (if t416 = true then ((sleuthref12_TrailMay.f k l0).bind fun t417 => (if t417 = true then (if 0 ≤ (l0.length : Int) then (if ((l0.length : Int) : Int).toNat ≤ 35184372088832 then (sleuthlaw13_TreeAll.l0 k l0 (List.replicate ((l0.length : Int) : Int).toNat 0) 0) else (none)) else (none)) else (some true))) else (some false))
theorem sleuthlaw13_TreeAll.mono_l : ∀ k, (∀ y0 y1 y2, LeO (sleuthlaw13_TreeAll.l0 k y0 y1 y2) (sleuthlaw13_TreeAll.l0 (k + 1) y0 y1 y2)) ∧ (∀ y0 y1 y2 y3 y4, LeO (sleuthlaw13_TreeAll.l1 k y0 y1 y2 y3 y4) (sleuthlaw13_TreeAll.l1 (k + 1) y0 y1 y2 y3 y4)) ∧ (∀ y0 y1 y2, LeO (sleuthlaw13_TreeAll.l2 k y0 y1 y2) (sleuthlaw13_TreeAll.l2 (k + 1) y0 y1 y2))
  | 0 => ⟨fun _ _ _ r h => by simp [sleuthlaw13_TreeAll.l0] at h, fun _ _ _ _ _ r h => by simp [sleuthlaw13_TreeAll.l1] at h, fun _ _ _ r h => by simp [sleuthlaw13_TreeAll.l2] at h⟩
  | k + 1 => by
    obtain ⟨ih0, ih1, ih2⟩ := sleuthlaw13_TreeAll.mono_l k
    refine ⟨?_, ?_, ?_⟩
    · intro y0 y1 y2
      unfold sleuthlaw13_TreeAll.l0
      repeat' first
      | (with_reducible exact ih0 _ _ _)
      | (with_reducible exact ih1 _ _ _ _ _)
      | (with_reducible exact ih2 _ _ _)
      | (with_reducible exact sleuthlaw13_awake.mono _)
      | (with_reducible exact sleuthref12_TrailMay.mono _ _)
      | (with_reducible exact tree_Kids.mono _ _ _)
      | (with_reducible exact LeO.refl _)
      | (with_reducible exact LeO.none _)
      | (with_reducible refine LeO.ite ?_ ?_)
      | (with_reducible refine LeO.bind ?_ (fun _ => ?_))
      | exact ih0 _ _ _
      | exact ih1 _ _ _ _ _
      | exact ih2 _ _ _
      | exact sleuthlaw13_awake.mono _
      | exact sleuthref12_TrailMay.mono _ _
      | exact tree_Kids.mono _ _ _
      | exact LeO.none _
      | refine LeO.ite ?_ ?_
      | refine LeO.bind ?_ (fun _ => ?_)
    · intro y0 y1 y2 y3 y4
      unfold sleuthlaw13_TreeAll.l1
      repeat' first
      | (with_reducible exact ih0 _ _ _)
      | (with_reducible exact ih1 _ _ _ _ _)
      | (with_reducible exact ih2 _ _ _)
      | (with_reducible exact sleuthlaw13_awake.mono _)
      | (with_reducible exact sleuthref12_TrailMay.mono _ _)
      | (with_reducible exact tree_Kids.mono _ _ _)
      | (with_reducible exact LeO.refl _)
      | (with_reducible exact LeO.none _)
      | (with_reducible refine LeO.ite ?_ ?_)
      | (with_reducible refine LeO.bind ?_ (fun _ => ?_))
      | exact ih0 _ _ _
      | exact ih1 _ _ _ _ _
      | exact ih2 _ _ _
      | exact sleuthlaw13_awake.mono _
      | exact sleuthref12_TrailMay.mono _ _
      | exact tree_Kids.mono _ _ _
      | exact LeO.none _
      | refine LeO.ite ?_ ?_
      | refine LeO.bind ?_ (fun _ => ?_)
    · intro y0 y1 y2
      unfold sleuthlaw13_TreeAll.l2
      repeat' first
      | (with_reducible exact ih0 _ _ _)
      | (with_reducible exact ih1 _ _ _ _ _)
      | (with_reducible exact ih2 _ _ _)
      | (with_reducible exact sleuthlaw13_awake.mono _)
      | (with_reducible exact sleuthref12_TrailMay.mono _ _)
      | (with_reducible exact tree_Kids.mono _ _ _)
      | (with_reducible exact LeO.refl _)
      | (with_reducible exact LeO.none _)
      | (with_reducible refine LeO.ite ?_ ?_)
      | (with_reducible refine LeO.bind ?_ (fun _ => ?_))
      | exact ih0 _ _ _
      | exact ih1 _ _ _ _ _
      | exact ih2 _ _ _
      | exact sleuthlaw13_awake.mono _
      | exact sleuthref12_TrailMay.mono _ _
      | exact tree_Kids.mono _ _ _
      | exact LeO.none _
      | refine LeO.ite ?_ ?_
      | refine LeO.bind ?_ (fun _ => ?_)
theorem sleuthlaw13_TreeAll.mono : ∀ a0 k, LeO (sleuthlaw13_TreeAll.f k a0) (sleuthlaw13_TreeAll.f (k + 1) a0) := by
  intro a0 k
  obtain ⟨ih0, ih1, ih2⟩ := sleuthlaw13_TreeAll.mono_l k
  unfold sleuthlaw13_TreeAll.f
  repeat' first
      | (with_reducible exact ih0 _ _ _)
      | (with_reducible exact ih1 _ _ _ _ _)
      | (with_reducible exact ih2 _ _ _)
      | (with_reducible exact sleuthlaw13_awake.mono _)
      | (with_reducible exact sleuthref12_TrailMay.mono _ _)
      | (with_reducible exact tree_Kids.mono _ _ _)
      | (with_reducible exact LeO.refl _)
      | (with_reducible exact LeO.none _)
      | (with_reducible refine LeO.ite ?_ ?_)
      | (with_reducible refine LeO.bind ?_ (fun _ => ?_))
      | exact ih0 _ _ _
      | exact ih1 _ _ _ _ _
      | exact ih2 _ _ _
      | exact sleuthlaw13_awake.mono _
      | exact sleuthref12_TrailMay.mono _ _
      | exact tree_Kids.mono _ _ _
      | exact LeO.none _
      | refine LeO.ite ?_ ?_
      | refine LeO.bind ?_ (fun _ => ?_)
set_option maxHeartbeats 8000000 in
set_option maxRecDepth 100000 in
theorem sleuthlaw13_TreeAll.calls (k : Nat) (A0 : Option Addr) (c0 : Nat) (l0 : List (S44)) (r : Bool) (w : World) (hr0 : Kd.C k44 w A0 l0.length l0) (hc0 : l0.length ≤ c0) (h : sleuthlaw13_TreeAll.f k l0 = some r) (hG : GOK w) :
    Calls Tryd.prog 6 #[.slice A0 l0.length c0] w fun e w' => e = .returned (.bool r) ∧ Below w.heap.size w w' := by
  have HR0 := Aside0.mk hr0
  have HC0 := Aside0.mk hc0
  clear hr0 hc0
  have HB := Aside0.mk (Below.refl w.heap.size w)
  have H : ((sleuthlaw13_awake.f k).bind fun t416 => (if t416 = true then ((sleuthref12_TrailMay.f k l0).bind fun t417 => (if t417 = true then (if 0 ≤ (l0.length : Int) then (if ((l0.length : Int) : Int).toNat ≤ 35184372088832 then (sleuthlaw13_TreeAll.l0 k l0 (List.replicate ((l0.length : Int) : Int).toNat 0) 0) else (none)) else (none)) else (some true))) else (some false))) = some r := h
  clear h
  replace H := Option.bind_eq_some_iff.mp H
  obtain ⟨t416, A20, H⟩ := H
  replace H : (if t416 = true then ((sleuthref12_TrailMay.f k l0).bind fun t417 => (if t417 = true then (if 0 ≤ (l0.length : Int) then (if ((l0.length : Int) : Int).toNat ≤ 35184372088832 then (sleuthlaw13_TreeAll.l0 k l0 (List.replicate ((l0.length : Int) : Int).toNat 0) 0) else (none)) else (none)) else (some true))) else (some false)) = some r := H
  have A2 := Aside0.mk A20
  clear A20
  by_cases c3 : t416 = true
  · subst c3
    have H1 : ((sleuthref12_TrailMay.f k l0).bind fun t417 => (if t417 = true then (if 0 ≤ (l0.length : Int) then (if ((l0.length : Int) : Int).toNat ≤ 35184372088832 then (sleuthlaw13_TreeAll.l0 k l0 (List.replicate ((l0.length : Int) : Int).toNat 0) 0) else (none)) else (none)) else (some true))) = some r := by rw [if_pos rfl] at H; exact H
    clear H
    have H := H1
    clear H1
    replace H := Option.bind_eq_some_iff.mp H
    obtain ⟨t417, A40, H⟩ := H
    replace H : (if t417 = true then (if 0 ≤ (l0.length : Int) then (if ((l0.length : Int) : Int).toNat ≤ 35184372088832 then (sleuthlaw13_TreeAll.l0 k l0 (List.replicate ((l0.length : Int) : Int).toNat 0) 0) else (none)) else (none)) else (some true)) = some r := H
    have A4 := Aside0.mk A40
    clear A40
    by_cases c5 : t417 = true
    · subst c5
      have H1 : (if 0 ≤ (l0.length : Int) then (if ((l0.length : Int) : Int).toNat ≤ 35184372088832 then (sleuthlaw13_TreeAll.l0 k l0 (List.replicate ((l0.length : Int) : Int).toNat 0) 0) else (none)) else (none)) = some r := by rw [if_pos rfl] at H; exact H
      clear H
      have H := H1
      clear H1
      by_cases c6 : 0 ≤ (l0.length : Int)
      · rw [if_pos c6] at H
        have c6b0 := eq_true c6
        have c6b1 : decide (0 ≤ (l0.length : Int)) = true := decide_eq_true c6
        clear c6
        by_cases c7 : ((l0.length : Int) : Int).toNat ≤ 35184372088832
        · rw [if_pos c7] at H
          have c7b0 := eq_true c7
          have c7b1 : decide (((l0.length : Int) : Int).toNat ≤ 35184372088832) = true := decide_eq_true c7
          clear c7
          obtain ⟨y418, hy418⟩ : ∃ y_ : List Int, y_ = (List.replicate ((l0.length : Int) : Int).toNat 0) := ⟨_, rfl⟩
          replace H : (sleuthlaw13_TreeAll.l0 k l0 y418 0) = some r := by first | (rw [hy418]; with_reducible exact H) | (have H2_ := (Option.bind_some _ _).symm.trans H; rw [hy418]; with_reducible exact H2_) | (have H2_ := (Option.bind_some _ _).symm.trans H; with_reducible exact H2_) | with_reducible exact H | (rw [hy418]; exact H) | exact H
          have Ny418 := Aside0.mk hy418
          clear hy418
          have H' := Aside0.mk H
          clear H
          go_enter Tryd.func6, Tryd.ntmps6
          go_wp2_with (first | ((with_reducible refine gate_callee (f := 23) rfl ?_); refine goesL_ (some 9) rfl rfl Tryd.func23 (by kernel_rfl) rfl #[] rfl hL_ ?_; (with_reducible refine (sleuthlaw13_awake.calls k  true _ A2.out hG_).mono ?_); rintro e w8 ⟨rfl, hb⟩; refine ⟨_, rfl, ?_⟩; have n0_ := Aside0.mk (below_step hB_ hb); clear HB; have HB := n0_; clear n0_; (try clear hb); (try clear hb2); (try clear hk); (try clear hi)) | ((with_reducible refine gate_callee (f := 24) rfl ?_); refine goesL_ (some 12) rfl rfl Tryd.func24 (by kernel_rfl) rfl #[.slice A0 l0.length c0] rfl hL_ ?_; (with_reducible refine (sleuthref12_TrailMay.calls k _ _ l0 true _ ?side1 ?side2 A4.out).mono ?_); (case side1 => repeat (first | exact (Kd.C_below HR0.out HB.out) | (with_reducible refine Kd.C_alloc ?_ _) | (with_reducible refine Kd.C_drewN ?_ _) | (with_reducible refine Kd.C_drew ?_))); (case side2 => exact HC0.out); rintro e w9 ⟨rfl, hb⟩; refine ⟨_, rfl, ?_⟩; have n0_ := Aside0.mk (below_step hB_ hb); clear HB; have HB := n0_; clear n0_; (try clear hb); (try clear hb2); (try clear hk); (try clear hi)) | ((with_reducible refine gate_dst (N := 16) rfl ?_); (try (refine gate_guard (by rfl) ?_; dsimp only)); refine Kd.R_make (Kd.int .i64) _ 3 rfl (N := 16) rfl 24 _ _ rfl (l0.length : Int) rfl rfl Tryd.underlying24 (.int .i64 0) 8 info3 rfl (by decide) (by omega) 0 (ok := fun _ => True) (okp := fun _ => True) rfl (fun _ hk => hk) trivial (of_decide_eq_true hA_) (Nat.le_trans (Nat.mul_le_mul_right _ (of_decide_eq_true hA_ : (l0.length : Int).toNat ≤ 35184372088832)) (by omega)) (Below.refl _ _) (Nat.le_refl _) ?_; intro v419 w10 ho11 hb hg_ hnew_; clear hg_ hnew_; (first | rw [← Ny418.out] at ho11 | (simp only [Int.reduceToNat] at ho11; rw [← Ny418.out] at ho11)); have n0_ := Aside0.mk (Kd.R_lower ho11 hS_); have n1_ := Aside0.mk (below_step hB_ hb); clear HB; have HO420 := n0_; have HB := n1_; clear n0_ n1_; clear hb ho11))
          go_loopg [4] k (fun kq v4 w' => ∃ (x3_1 : List Int) (x4_1 : Int), v4 = .int .i64 x4_1 ∧ Aside0 (sleuthlaw13_TreeAll.l0 kq l0 x3_1 x4_1 = some r) ∧ Aside0 (kq ≤ k) ∧ Aside0 (Kd.R (Kd.int .i64) 3 w' w.heap.size (fun _ => True) v419 x3_1) ∧ Aside0 (Below w.heap.size w w'))
          case atStart => exact ⟨(y418), (0), (by first | rfl | (simp; done) | (simp [*]; done)), H', ⟨Nat.le_refl _⟩, ⟨by (with_reducible repeat (first | apply Kd.R_alloc | apply Kd.R_drewN | apply Kd.R_drew)); exact HO420.out⟩, ⟨by repeat (first | (with_reducible first | exact HB.out | apply below_alloc | apply pw_below_drewN | apply below_drew1) | exact HB.out)⟩⟩
          case round =>
            clear H'
            try clear c2
            try clear p2
            try clear c3
            try clear c5
            try clear c6
            try clear c6b0
            try clear c6b1
            try clear c7
            try clear c7b0
            try clear c7b1
            obtain ⟨x3_1, x4_1, rfl, HA, HK1, HO_3, HB⟩ := hrel
            cases gk with
            | zero => exact absurd HA.out (by simp [sleuthlaw13_TreeAll.l0])
            | succ k1 =>
              have H := HA.out
              clear HA
              simp only [sleuthlaw13_TreeAll.l0] at H
              by_cases c12 : x4_1 < (l0.length : Int)
              · rw [if_pos c12] at H
                have c12b0 : decide (x4_1 < (l0.length : Int)) = true := decide_eq_true c12
                clear c12
                replace H := Option.bind_eq_some_iff.mp H
                obtain ⟨⟨t421, t422⟩, A130, H⟩ := H
                replace H : ((sleuthlaw0_Num.f t422).bind fun t425 => (if t425 = 0 then (sleuthlaw13_TreeAll.l1 k1 l0 x3_1 x4_1 t421 0) else (some false))) = some r := H
                have A13 := Aside0.mk A130
                clear A130
                replace H := Option.bind_eq_some_iff.mp H
                obtain ⟨t425, A140, H⟩ := H
                replace H : (if t425 = 0 then (sleuthlaw13_TreeAll.l1 k1 l0 x3_1 x4_1 t421 0) else (some false)) = some r := H
                have A14 := Aside0.mk A140
                clear A140
                by_cases c15 : t425 = 0
                · rw [if_pos c15] at H
                  have c15b0 : (t425 == 0) = true := beq_iff_eq.mpr c15
                  have c15b1 : (t425 != 0) = false := bne_eq_false_iff_eq.mpr c15
                  clear c15
                  have H' := Aside0.mk H
                  clear H
                  go_wp2_with (first | ((with_reducible refine gate_callee (f := 15) rfl ?_); refine goesL_ (some 26) rfl rfl Tryd.func15 (by kernel_rfl) rfl #[.slice A0 l0.length c0, .int .i64 x4_1] rfl hL_ ?_; (with_reducible refine (tree_Kids.calls k1 _ _ l0 x4_1 t421 t422 _ ?side1 ?side2 A13.out hG_).mono ?_); (case side1 => repeat (first | exact (Kd.C_below HR0.out HB.out) | (with_reducible refine Kd.C_alloc ?_ _) | (with_reducible refine Kd.C_drewN ?_ _) | (with_reducible refine Kd.C_drew ?_))); (case side2 => exact HC0.out); rintro e w16 ⟨v423, rfl, ho0, hb⟩; refine ⟨_, rfl, ?_⟩; have n0_ := Aside0.mk (Kd.R_elder' (hR_ HO_3.out) (Kd.R_base ho0) hb); have n1_ := Aside0.mk (Kd.R_lower (Kd.R_new' ho0 (Kd.R_lt (hR_ HO_3.out))) hS_); have n2_ := Aside0.mk (below_step hB_ hb); clear HO_3; clear HB; have HO_3 := n0_; have HO424 := n1_; have HB := n2_; clear n0_ n1_ n2_; (try clear hb); (try clear hb2); (try clear hk); (try clear hi); (try clear ho0)) | ((with_reducible refine gate_callee (f := 20) rfl ?_); refine goesL_ (some 30) rfl rfl Tryd.func20 (by kernel_rfl) rfl #[.int .i64 t422] rfl hL_ ?_; (with_reducible refine (sleuthlaw0_Num.calls t422 t425 _ A14.out).mono ?_); rintro e w' ⟨rfl, ⟨nd, rfl⟩⟩; refine ⟨_, rfl, ?_⟩))
                  go_loopg [7] k1 (fun kq v7 w' => ∃ (x3_2 : List Int) (x7_2 : Int), v7 = .int .i64 x7_2 ∧ Aside0 (sleuthlaw13_TreeAll.l1 kq l0 x3_2 x4_1 t421 x7_2 = some r) ∧ Aside0 (kq ≤ k1) ∧ Aside0 (Kd.R (Kd.int .i64) 3 w' w.heap.size (fun k_ => some k_ ≠ (v423 : Value).ownBlock) v419 x3_2) ∧ Aside0 (Kd.R (Kd.int .i64) 3 w' w.heap.size (fun k_ => some k_ ≠ (v419 : Value).ownBlock) v423 t421) ∧ Aside0 (Below w.heap.size w w'))
                  case atStart => exact ⟨(x3_1), (0), (by first | rfl | (simp; done) | (simp [*]; done)), H', ⟨Nat.le_refl _⟩, ⟨by (with_reducible repeat (first | apply Kd.R_alloc | apply Kd.R_drewN | apply Kd.R_drew)); exact Kd.R_mono HO_3.out (fun _ hk => hk.2)⟩, ⟨by (with_reducible repeat (first | apply Kd.R_alloc | apply Kd.R_drewN | apply Kd.R_drew)); exact Kd.R_mono HO424.out (fun _ hk => hk.2)⟩, ⟨by repeat (first | (with_reducible first | exact HB.out | apply below_alloc | apply pw_below_drewN | apply below_drew1) | exact HB.out)⟩⟩
                  case round =>
                    clear H'
                    try clear c1
                    try clear c2
                    try clear p2
                    try clear c3
                    try clear c5
                    try clear c6
                    try clear c6b0
                    try clear c6b1
                    try clear c7
                    try clear c7b0
                    try clear c7b1
                    try clear c12
                    try clear c12b0
                    try clear c15
                    try clear c15b0
                    try clear c15b1
                    try clear p2
                    obtain ⟨x3_2, x7_2, rfl, HA, HK2, HO_3, HO_5, HB⟩ := hrel
                    cases gk with
                    | zero => exact absurd HA.out (by simp [sleuthlaw13_TreeAll.l1])
                    | succ k2 =>
                      have H := HA.out
                      clear HA
                      simp only [sleuthlaw13_TreeAll.l1] at H
                      by_cases c17 : x7_2 < (t421.length : Int)
                      · rw [if_pos c17] at H
                        have c17b0 : decide (x7_2 < (t421.length : Int)) = true := decide_eq_true c17
                        clear c17
                        by_cases c18 : 0 ≤ x7_2
                        · rw [if_pos c18] at H
                          have c18b0 : decide (0 ≤ x7_2) = true := decide_eq_true c18
                          clear c18
                          by_cases c19 : (rd t421 x7_2) ≤ x4_1
                          · rw [if_pos c19] at H
                            have c19b0 : decide ((rd t421 x7_2) ≤ x4_1) = true := decide_eq_true c19
                            clear c19
                            obtain rfl := Option.some.inj H
                            obtain ⟨Ao20, co20, eo20⟩ := Kd.R_slice HO_5.out
                            subst eo20
                            have p426 : 0 ≤ (x7_2 : Int) := of_decide_eq_true hA_
                            have q426 : x7_2 < (t421.length : Int) := of_decide_eq_true hA_
                            obtain ⟨ad426, e426, hx426_0⟩ := Kd.at_int (Kd.R_reads' HO_5.out).2.2 x7_2 p426 q426
                            cases e426
                            replace p426 := eq_true p426
                            replace q426 := eq_true q426
                            go_wp2
                            go_ret
                            exact ⟨by first | rfl | (simp [errW_none, errW_some] <;> rfl) | (simp [*, errW_none, errW_some] <;> rfl), by repeat (first | (with_reducible first | exact HB.out | apply below_alloc | apply pw_below_drewN | apply below_drew1) | exact HB.out)⟩
                          · rw [if_neg c19] at H
                            have c19b0 : decide ((rd t421 x7_2) ≤ x4_1) = false := decide_eq_false c19
                            clear c19
                            by_cases c21 : (rd t421 x7_2) ≥ (l0.length : Int)
                            · rw [if_pos c21] at H
                              have c21b0 : decide ((l0.length : Int) ≤ (rd t421 x7_2)) = true := decide_eq_true c21
                              clear c21
                              obtain rfl := Option.some.inj H
                              obtain ⟨Ao22, co22, eo22⟩ := Kd.R_slice HO_5.out
                              subst eo22
                              have p426 : 0 ≤ (x7_2 : Int) := of_decide_eq_true hA_
                              have q426 : x7_2 < (t421.length : Int) := of_decide_eq_true hA_
                              obtain ⟨ad426, e426, hx426_0⟩ := Kd.at_int (Kd.R_reads' HO_5.out).2.2 x7_2 p426 q426
                              cases e426
                              replace p426 := eq_true p426
                              replace q426 := eq_true q426
                              have p427 : 0 ≤ (x7_2 : Int) := of_decide_eq_true hA_
                              have q427 : x7_2 < (t421.length : Int) := of_decide_eq_true hA_
                              obtain ⟨ad427, e427, hx427_0⟩ := Kd.at_int (Kd.R_reads' HO_5.out).2.2 x7_2 p427 q427
                              obtain rfl : ad426 = ad427 := (by injection e427)
                              replace p427 := eq_true p427
                              replace q427 := eq_true q427
                              go_wp2
                              go_ret
                              exact ⟨by first | rfl | (simp [errW_none, errW_some] <;> rfl) | (simp [*, errW_none, errW_some] <;> rfl), by repeat (first | (with_reducible first | exact HB.out | apply below_alloc | apply pw_below_drewN | apply below_drew1) | exact HB.out)⟩
                            · rw [if_neg c21] at H
                              have c21b0 : decide ((l0.length : Int) ≤ (rd t421 x7_2)) = false := decide_eq_false c21
                              clear c21
                              by_cases c23 : 0 ≤ (rd t421 x7_2)
                              · rw [if_pos c23] at H
                                have c23b0 : decide (0 ≤ (rd t421 x7_2)) = true := decide_eq_true c23
                                clear c23
                                by_cases c24 : (rd t421 x7_2) < (l0.length : Int)
                                · rw [if_pos c24] at H
                                  have c24b0 : decide ((rd t421 x7_2) < (l0.length : Int)) = true := decide_eq_true c24
                                  clear c24
                                  by_cases c25 : ((rd_T44 l0 (rd t421 x7_2)).f1) = x4_1
                                  · rw [if_pos c25] at H
                                    have c25b0 : (((rd_T44 l0 (rd t421 x7_2)).f1) == x4_1) = true := beq_iff_eq.mpr c25
                                    have c25b1 : (((rd_T44 l0 (rd t421 x7_2)).f1) != x4_1) = false := bne_eq_false_iff_eq.mpr c25
                                    clear c25
                                    by_cases c26 : (rd t421 x7_2) < (x3_2.length : Int)
                                    · rw [if_pos c26] at H
                                      have c26b0 : decide ((rd t421 x7_2) < (x3_2.length : Int)) = true := decide_eq_true c26
                                      clear c26
                                      obtain ⟨y432, hy432⟩ : ∃ y_ : List Int, y_ = (x3_2.set ((rd t421 x7_2) : Int).toNat (wrap64 ((rd x3_2 (rd t421 x7_2)) + 1))) := ⟨_, rfl⟩
                                      replace H : (sleuthlaw13_TreeAll.l1 k2 l0 y432 x4_1 t421 (wrap64 (x7_2 + 1))) = some r := by first | (rw [hy432]; with_reducible exact H) | (have H2_ := (Option.bind_some _ _).symm.trans H; rw [hy432]; with_reducible exact H2_) | (have H2_ := (Option.bind_some _ _).symm.trans H; with_reducible exact H2_) | with_reducible exact H | (rw [hy432]; exact H) | exact H
                                      have Ny432 := Aside0.mk hy432
                                      clear hy432
                                      have H' := Aside0.mk H
                                      clear H
                                      obtain ⟨Ao28, co28, eo28⟩ := Kd.R_slice HO_5.out
                                      subst eo28
                                      have p426 : 0 ≤ (x7_2 : Int) := of_decide_eq_true hA_
                                      have q426 : x7_2 < (t421.length : Int) := of_decide_eq_true hA_
                                      obtain ⟨ad426, e426, hx426_0⟩ := Kd.at_int (Kd.R_reads' HO_5.out).2.2 x7_2 p426 q426
                                      cases e426
                                      replace p426 := eq_true p426
                                      replace q426 := eq_true q426
                                      have p427 : 0 ≤ (x7_2 : Int) := of_decide_eq_true hA_
                                      have q427 : x7_2 < (t421.length : Int) := of_decide_eq_true hA_
                                      obtain ⟨ad427, e427, hx427_0⟩ := Kd.at_int (Kd.R_reads' HO_5.out).2.2 x7_2 p427 q427
                                      obtain rfl : ad426 = ad427 := (by injection e427)
                                      replace p427 := eq_true p427
                                      replace q427 := eq_true q427
                                      have p428 : 0 ≤ (x7_2 : Int) := of_decide_eq_true hA_
                                      have q428 : x7_2 < (t421.length : Int) := of_decide_eq_true hA_
                                      obtain ⟨ad428, e428, hx428_0⟩ := Kd.at_int (Kd.R_reads' HO_5.out).2.2 x7_2 p428 q428
                                      obtain rfl : ad426 = ad428 := (by injection e428)
                                      replace p428 := eq_true p428
                                      replace q428 := eq_true q428
                                      have p429 : 0 ≤ ((rd t421 x7_2) : Int) := of_decide_eq_true hA_
                                      have q429 : (rd t421 x7_2) < (l0.length : Int) := of_decide_eq_true hA_
                                      obtain ⟨ad429, A429_2, c429_2, e429, hx429_0, hx429_1, hx429_2, hx429_3, hl429_2, hi429_2⟩ := at_T44 HR0.out (rd t421 x7_2) p429 q429
                                      cases e429
                                      replace hx429_0 := (HB.out.cell (World.block_lt_of_cell? w _ hx429_0)).trans hx429_0
                                      replace hx429_1 := (HB.out.cell (World.block_lt_of_cell? w _ hx429_1)).trans hx429_1
                                      replace hx429_2 := (HB.out.cell (World.block_lt_of_cell? w _ hx429_2)).trans hx429_2
                                      replace hx429_3 := (HB.out.cell (World.block_lt_of_cell? w _ hx429_3)).trans hx429_3
                                      have HR429_2 := Aside0.mk hi429_2
                                      have HC429_2 := Aside0.mk hl429_2
                                      clear hi429_2 hl429_2
                                      replace p429 := eq_true p429
                                      replace q429 := eq_true q429
                                      have p430 : 0 ≤ (x7_2 : Int) := of_decide_eq_true hA_
                                      have q430 : x7_2 < (t421.length : Int) := of_decide_eq_true hA_
                                      obtain ⟨ad430, e430, hx430_0⟩ := Kd.at_int (Kd.R_reads' HO_5.out).2.2 x7_2 p430 q430
                                      obtain rfl : ad426 = ad430 := (by injection e430)
                                      replace p430 := eq_true p430
                                      replace q430 := eq_true q430
                                      obtain ⟨Ao29, co29, eo29⟩ := Kd.R_slice HO_3.out
                                      subst eo29
                                      have p431 : 0 ≤ ((rd t421 x7_2) : Int) := of_decide_eq_true hA_
                                      have q431 : (rd t421 x7_2) < (x3_2.length : Int) := of_decide_eq_true hA_
                                      obtain ⟨ad431, e431, hx431_0⟩ := Kd.at_int (Kd.R_reads' HO_3.out).2.2 (rd t421 x7_2) p431 q431
                                      cases e431
                                      replace p431 := eq_true p431
                                      replace q431 := eq_true q431
                                      have p27 : 0 ≤ ((rd t421 x7_2) : Int) := of_decide_eq_true hA_
                                      have q27 : ((rd t421 x7_2) : Int) < ((x3_2.length : Int) : Int) := of_decide_eq_true hA_
                                      obtain ⟨go27, co27, eo27, gb27, gl27, cl27, HG27⟩ := Kd.R_form HO_3.out (by omega)
                                      (first | cases eo27 | (injection eo27 with ea_ en_ ec_; (first | subst ea_ | (injection ea_ with ea_; subst ea_)); subst ec_; clear en_))
                                      have GB27 := Aside0.mk gb27
                                      have GG27 := Aside0.mk HG27
                                      clear gb27 gl27 HG27
                                      (first | simp only [add_plain] at hx431_0 | skip)
                                      obtain ⟨hx27_0, hf27_0⟩ := Kd.R_celln 0 HO_3.out ((rd t421 x7_2) : Int) p27 q27
                                      replace p27 := eq_true p27
                                      replace q27 := eq_true q27
                                      have HP30 := Kd.R_putg HO_3.out ((rd t421 x7_2) : Int) (wrap64 ((rd x3_2 (rd t421 x7_2)) + 1))
                                      go_wp2_with (first | ((with_reducible refine gate_store (t := 3) (p := 73) rfl ?_); refine store_event (t := 3) (p := 73) (v := ?vo_w31) (w1 := (wr.setCell ⟨go27, ((rd t421 x7_2) : Int).toNat, none⟩ (.int .i64 (wrap64 ((rd x3_2 (rd t421 x7_2)) + 1))))) ?hg ?ho ?hn ?hr ?_; (case ho => rfl); (case hg => rfl); (case hn => rfl); (case hr => first | (go_simp; done) | (go_simp; rfl)); intro w31 hw; have hg : wr.grownBy w31 (some go27) := (by rw [hw]; exact HP30.2); have hp_ : Kd.R (Kd.int .i64) 3 w31 w.heap.size (fun k_ => some k_ ≠ (.slice (some ad426) t421.length co28 : Value).ownBlock) (.slice (some ⟨go27, 0, none⟩) x3_2.length co29) y432 := (by rw [hw, Ny432.out]; exact HP30.1); clear HP30; have n0_ := Aside0.mk (hp_); have n1_ := Aside0.mk (Kd.R_after (v := (.slice (some ⟨go27, 0, none⟩) x3_2.length co29)) (v1 := (.slice (some ⟨go27, 0, none⟩) x3_2.length co29)) (ok := (fun _ => True)) (by (with_reducible repeat (first | apply Kd.R_alloc | apply Kd.R_drewN | apply Kd.R_drew)); exact Kd.R_mono HO_5.out (fun _ hk => ⟨trivial, hk⟩)) hg (.inl rfl)); have n2_ := Aside0.mk ((by rw [hw]; exact below_set (HB.out) GB27.out : Below w.heap.size w w31)); clear HO_3; clear HO_5; clear HB; have HO_3 := n0_; have HO_5 := n1_; have HB := n2_; clear n0_ n1_ n2_; clear hg hw hp_))
                                      go_roundg k2
                                      case measure => have := HK1.out; have := HK2.out; omega
                                      case rel => exact ⟨(y432), (wrap64 (x7_2 + 1)), (by first | rfl | (simp; done) | (simp [*]; done)), H', ⟨by have := HK1.out; have := HK2.out; omega⟩, ⟨by (with_reducible repeat (first | apply Kd.R_alloc | apply Kd.R_drewN | apply Kd.R_drew)); exact HO_3.out⟩, ⟨by (with_reducible repeat (first | apply Kd.R_alloc | apply Kd.R_drewN | apply Kd.R_drew)); exact Kd.R_mono HO_5.out (fun _ hk => hk.2)⟩, ⟨by repeat (first | (with_reducible first | exact HB.out | apply below_alloc | apply pw_below_drewN | apply below_drew1) | exact HB.out)⟩⟩
                                    · rw [if_neg c26] at H
                                      exact absurd H (by simp)
                                  · rw [if_neg c25] at H
                                    have c25b0 : (((rd_T44 l0 (rd t421 x7_2)).f1) == x4_1) = false := beq_eq_false_iff_ne.mpr c25
                                    have c25b1 : (((rd_T44 l0 (rd t421 x7_2)).f1) != x4_1) = true := bne_iff_ne.mpr c25
                                    obtain rfl := Option.some.inj H
                                    obtain ⟨Ao32, co32, eo32⟩ := Kd.R_slice HO_5.out
                                    subst eo32
                                    have p426 : 0 ≤ (x7_2 : Int) := of_decide_eq_true hA_
                                    have q426 : x7_2 < (t421.length : Int) := of_decide_eq_true hA_
                                    obtain ⟨ad426, e426, hx426_0⟩ := Kd.at_int (Kd.R_reads' HO_5.out).2.2 x7_2 p426 q426
                                    cases e426
                                    replace p426 := eq_true p426
                                    replace q426 := eq_true q426
                                    have p427 : 0 ≤ (x7_2 : Int) := of_decide_eq_true hA_
                                    have q427 : x7_2 < (t421.length : Int) := of_decide_eq_true hA_
                                    obtain ⟨ad427, e427, hx427_0⟩ := Kd.at_int (Kd.R_reads' HO_5.out).2.2 x7_2 p427 q427
                                    obtain rfl : ad426 = ad427 := (by injection e427)
                                    replace p427 := eq_true p427
                                    replace q427 := eq_true q427
                                    have p428 : 0 ≤ (x7_2 : Int) := of_decide_eq_true hA_
                                    have q428 : x7_2 < (t421.length : Int) := of_decide_eq_true hA_
                                    obtain ⟨ad428, e428, hx428_0⟩ := Kd.at_int (Kd.R_reads' HO_5.out).2.2 x7_2 p428 q428
                                    obtain rfl : ad426 = ad428 := (by injection e428)
                                    replace p428 := eq_true p428
                                    replace q428 := eq_true q428
                                    have p429 : 0 ≤ ((rd t421 x7_2) : Int) := of_decide_eq_true hA_
                                    have q429 : (rd t421 x7_2) < (l0.length : Int) := of_decide_eq_true hA_
                                    obtain ⟨ad429, A429_2, c429_2, e429, hx429_0, hx429_1, hx429_2, hx429_3, hl429_2, hi429_2⟩ := at_T44 HR0.out (rd t421 x7_2) p429 q429
                                    cases e429
                                    replace hx429_0 := (HB.out.cell (World.block_lt_of_cell? w _ hx429_0)).trans hx429_0
                                    replace hx429_1 := (HB.out.cell (World.block_lt_of_cell? w _ hx429_1)).trans hx429_1
                                    replace hx429_2 := (HB.out.cell (World.block_lt_of_cell? w _ hx429_2)).trans hx429_2
                                    replace hx429_3 := (HB.out.cell (World.block_lt_of_cell? w _ hx429_3)).trans hx429_3
                                    have HR429_2 := Aside0.mk hi429_2
                                    have HC429_2 := Aside0.mk hl429_2
                                    clear hi429_2 hl429_2
                                    replace p429 := eq_true p429
                                    replace q429 := eq_true q429
                                    go_wp2
                                    go_ret
                                    exact ⟨by first | rfl | (simp [errW_none, errW_some] <;> rfl) | (simp [*, errW_none, errW_some] <;> rfl), by repeat (first | (with_reducible first | exact HB.out | apply below_alloc | apply pw_below_drewN | apply below_drew1) | exact HB.out)⟩
                                · rw [if_neg c24] at H
                                  exact absurd H (by simp)
                              · rw [if_neg c23] at H
                                exact absurd H (by simp)
                        · rw [if_neg c18] at H
                          exact absurd H (by simp)
                      · rw [if_neg c17] at H
                        have c17b0 : decide (x7_2 < (t421.length : Int)) = false := decide_eq_false c17
                        clear c17
                        have H' := Aside0.mk H
                        clear H
                        obtain ⟨Ao33, co33, eo33⟩ := Kd.R_slice HO_5.out
                        subst eo33
                        go_wp2
                        go_roundg k2
                        case measure => have := HK1.out; have := HK2.out; omega
                        case rel => exact ⟨(x3_2), (wrap64 (x4_1 + 1)), (by first | rfl | (simp; done) | (simp [*]; done)), H', ⟨by have := HK1.out; have := HK2.out; omega⟩, ⟨by (with_reducible repeat (first | apply Kd.R_alloc | apply Kd.R_drewN | apply Kd.R_drew)); exact Kd.R_mono HO_3.out (fun _ hk => trivial)⟩, ⟨by repeat (first | (with_reducible first | exact HB.out | apply below_alloc | apply pw_below_drewN | apply below_drew1) | exact HB.out)⟩⟩
                · rw [if_neg c15] at H
                  have c15b0 : (t425 == 0) = false := beq_eq_false_iff_ne.mpr c15
                  have c15b1 : (t425 != 0) = true := bne_iff_ne.mpr c15
                  obtain rfl := Option.some.inj H
                  go_wp2_with (first | ((with_reducible refine gate_callee (f := 15) rfl ?_); refine goesL_ (some 26) rfl rfl Tryd.func15 (by kernel_rfl) rfl #[.slice A0 l0.length c0, .int .i64 x4_1] rfl hL_ ?_; (with_reducible refine (tree_Kids.calls k1 _ _ l0 x4_1 t421 t422 _ ?side1 ?side2 A13.out hG_).mono ?_); (case side1 => repeat (first | exact (Kd.C_below HR0.out HB.out) | (with_reducible refine Kd.C_alloc ?_ _) | (with_reducible refine Kd.C_drewN ?_ _) | (with_reducible refine Kd.C_drew ?_))); (case side2 => exact HC0.out); rintro e w34 ⟨v423, rfl, ho0, hb⟩; refine ⟨_, rfl, ?_⟩; have n0_ := Aside0.mk (Kd.R_elder' (hR_ HO_3.out) (Kd.R_base ho0) hb); have n1_ := Aside0.mk (Kd.R_lower (Kd.R_new' ho0 (Kd.R_lt (hR_ HO_3.out))) hS_); have n2_ := Aside0.mk (below_step hB_ hb); clear HO_3; clear HB; have HO_3 := n0_; have HO424 := n1_; have HB := n2_; clear n0_ n1_ n2_; (try clear hb); (try clear hb2); (try clear hk); (try clear hi); (try clear ho0)) | ((with_reducible refine gate_callee (f := 20) rfl ?_); refine goesL_ (some 30) rfl rfl Tryd.func20 (by kernel_rfl) rfl #[.int .i64 t422] rfl hL_ ?_; (with_reducible refine (sleuthlaw0_Num.calls t422 t425 _ A14.out).mono ?_); rintro e w' ⟨rfl, ⟨nd, rfl⟩⟩; refine ⟨_, rfl, ?_⟩))
                  go_ret
                  exact ⟨by first | rfl | (simp [errW_none, errW_some] <;> rfl) | (simp [*, errW_none, errW_some] <;> rfl), by repeat (first | (with_reducible first | exact HB.out | apply below_alloc | apply pw_below_drewN | apply below_drew1) | exact HB.out)⟩
              · rw [if_neg c12] at H
                have c12b0 : decide (x4_1 < (l0.length : Int)) = false := decide_eq_false c12
                clear c12
                have H' := Aside0.mk H
                clear H
                go_wp2
                go_loopg [8] k1 (fun kq v8 w' => ∃ (x8_2 : Int), v8 = .int .i64 x8_2 ∧ Aside0 (sleuthlaw13_TreeAll.l2 kq l0 x3_1 x8_2 = some r) ∧ Aside0 (kq ≤ k1) ∧ Aside0 (Kd.R (Kd.int .i64) 3 w' w.heap.size (fun _ => True) v419 x3_1) ∧ Aside0 (Below w.heap.size w w'))
                case atStart => exact ⟨(0), (by first | rfl | (simp; done) | (simp [*]; done)), H', ⟨Nat.le_refl _⟩, ⟨by (with_reducible repeat (first | apply Kd.R_alloc | apply Kd.R_drewN | apply Kd.R_drew)); exact HO_3.out⟩, ⟨by repeat (first | (with_reducible first | exact HB.out | apply below_alloc | apply pw_below_drewN | apply below_drew1) | exact HB.out)⟩⟩
                case round =>
                  clear H'
                  try clear c1
                  try clear c2
                  try clear p2
                  try clear q2
                  try clear hx2
                  try clear hf2
                  try clear c3
                  try clear c4
                  try clear p4
                  try clear q4
                  try clear hx4
                  try clear c5
                  try clear c6
                  try clear c6b0
                  try clear c6b1
                  try clear p6
                  try clear c7
                  try clear c7b0
                  try clear c7b1
                  try clear c12
                  try clear c12b0
                  try clear c15
                  try clear c15b0
                  try clear c15b1
                  try clear c17
                  try clear c17b0
                  try clear c18
                  try clear c18b0
                  try clear c19
                  try clear c19b0
                  try clear c20
                  try clear c21
                  try clear c21b0
                  try clear c23
                  try clear c23b0
                  try clear c24
                  try clear c24b0
                  try clear c25
                  try clear c25b0
                  try clear c25b1
                  try clear c26
                  try clear c26b0
                  try clear p27
                  try clear q27
                  try clear hx27
                  try clear hf27
                  try clear hx27_0
                  try clear hx426_0
                  try clear hx427_0
                  try clear hx428_0
                  try clear hx429_0
                  try clear hx429_1
                  try clear hx429_2
                  try clear hx429_3
                  try clear hx430_0
                  try clear hx431_0
                  try clear p2
                  try clear p27
                  try clear p426
                  try clear p427
                  try clear p428
                  try clear p429
                  try clear p430
                  try clear p431
                  try clear q27
                  try clear q426
                  try clear q427
                  try clear q428
                  try clear q429
                  try clear q430
                  try clear q431
                  obtain ⟨x8_2, rfl, HA, HK2, HO_3, HB⟩ := hrel
                  cases gk with
                  | zero => exact absurd HA.out (by simp [sleuthlaw13_TreeAll.l2])
                  | succ k2 =>
                    have H := HA.out
                    clear HA
                    simp only [sleuthlaw13_TreeAll.l2] at H
                    by_cases c35 : x8_2 < (l0.length : Int)
                    · rw [if_pos c35] at H
                      have c35b0 : decide (x8_2 < (l0.length : Int)) = true := decide_eq_true c35
                      clear c35
                      by_cases c36 : 0 ≤ x8_2
                      · rw [if_pos c36] at H
                        have c36b0 : decide (0 ≤ x8_2) = true := decide_eq_true c36
                        clear c36
                        by_cases c37 : x8_2 < (x3_1.length : Int)
                        · rw [if_pos c37] at H
                          have c37b0 : decide (x8_2 < (x3_1.length : Int)) = true := decide_eq_true c37
                          clear c37
                          obtain ⟨ji38, hji38⟩ : ∃ j_ : Int, (mn x8_2 1) = j_ := ⟨_, rfl⟩
                          replace H : (if (rd x3_1 x8_2) = (ji38) then (sleuthlaw13_TreeAll.l2 k2 l0 x3_1 (wrap64 (x8_2 + 1))) else (some false)) = some r := by first | (rw [hji38] at H; exact H) | (simp only [hji38] at H ⊢; exact H)
                          have hji38_ : (if 1 < x8_2 then 1 else x8_2) = ji38 := hji38
                          by_cases c39 : (rd x3_1 x8_2) = (ji38)
                          · rw [if_pos c39] at H
                            have c39b0 : ((rd x3_1 x8_2) == (ji38)) = true := beq_iff_eq.mpr c39
                            have c39b1 : ((rd x3_1 x8_2) != (ji38)) = false := bne_eq_false_iff_eq.mpr c39
                            clear c39
                            have H' := Aside0.mk H
                            clear H
                            obtain ⟨Ao40, co40, eo40⟩ := Kd.R_slice HO_3.out
                            subst eo40
                            have p433 : 0 ≤ (x8_2 : Int) := of_decide_eq_true hA_
                            have q433 : x8_2 < (x3_1.length : Int) := of_decide_eq_true hA_
                            obtain ⟨ad433, e433, hx433_0⟩ := Kd.at_int (Kd.R_reads' HO_3.out).2.2 x8_2 p433 q433
                            cases e433
                            replace p433 := eq_true p433
                            replace q433 := eq_true q433
                            go_wp2
                            go_roundg k2
                            case measure => have := HK1.out; have := HK2.out; omega
                            case rel => exact ⟨(wrap64 (x8_2 + 1)), (by first | rfl | (simp; done) | (simp [*]; done)), H', ⟨by have := HK1.out; have := HK2.out; omega⟩, ⟨by (with_reducible repeat (first | apply Kd.R_alloc | apply Kd.R_drewN | apply Kd.R_drew)); exact HO_3.out⟩, ⟨by repeat (first | (with_reducible first | exact HB.out | apply below_alloc | apply pw_below_drewN | apply below_drew1) | exact HB.out)⟩⟩
                          · rw [if_neg c39] at H
                            have c39b0 : ((rd x3_1 x8_2) == (ji38)) = false := beq_eq_false_iff_ne.mpr c39
                            have c39b1 : ((rd x3_1 x8_2) != (ji38)) = true := bne_iff_ne.mpr c39
                            obtain rfl := Option.some.inj H
                            obtain ⟨Ao41, co41, eo41⟩ := Kd.R_slice HO_3.out
                            subst eo41
                            have p433 : 0 ≤ (x8_2 : Int) := of_decide_eq_true hA_
                            have q433 : x8_2 < (x3_1.length : Int) := of_decide_eq_true hA_
                            obtain ⟨ad433, e433, hx433_0⟩ := Kd.at_int (Kd.R_reads' HO_3.out).2.2 x8_2 p433 q433
                            cases e433
                            replace p433 := eq_true p433
                            replace q433 := eq_true q433
                            go_wp2
                            go_ret
                            exact ⟨by first | rfl | (simp [errW_none, errW_some] <;> rfl) | (simp only [← hji38]; first | rfl | (simp [errW_none, errW_some] <;> rfl)) | (simp [*, errW_none, errW_some] <;> rfl), by repeat (first | (with_reducible first | exact HB.out | apply below_alloc | apply pw_below_drewN | apply below_drew1) | exact HB.out)⟩
                        · rw [if_neg c37] at H
                          exact absurd H (by simp)
                      · rw [if_neg c36] at H
                        exact absurd H (by simp)
                    · rw [if_neg c35] at H
                      have c35b0 : decide (x8_2 < (l0.length : Int)) = false := decide_eq_false c35
                      clear c35
                      obtain rfl := Option.some.inj H
                      go_wp2
                      go_ret
                      exact ⟨by first | rfl | (simp [errW_none, errW_some] <;> rfl) | (simp [*, errW_none, errW_some] <;> rfl), by repeat (first | (with_reducible first | exact HB.out | apply below_alloc | apply pw_below_drewN | apply below_drew1) | exact HB.out)⟩
        · rw [if_neg c7] at H
          exact absurd H (by simp)
      · rw [if_neg c6] at H
        exact absurd H (by simp)
    · replace c5 := Bool.eq_false_iff.mpr c5
      subst c5
      have H1 : (some true) = some r := by rw [if_neg (show ¬ (false = true) by decide)] at H; exact H
      clear H
      have H := H1
      clear H1
      obtain rfl := Option.some.inj H
      go_enter Tryd.func6, Tryd.ntmps6
      go_wp2_with (first | ((with_reducible refine gate_callee (f := 23) rfl ?_); refine goesL_ (some 9) rfl rfl Tryd.func23 (by kernel_rfl) rfl #[] rfl hL_ ?_; (with_reducible refine (sleuthlaw13_awake.calls k  true _ A2.out hG_).mono ?_); rintro e w42 ⟨rfl, hb⟩; refine ⟨_, rfl, ?_⟩; have n0_ := Aside0.mk (below_step hB_ hb); clear HB; have HB := n0_; clear n0_; (try clear hb); (try clear hb2); (try clear hk); (try clear hi)) | ((with_reducible refine gate_callee (f := 24) rfl ?_); refine goesL_ (some 12) rfl rfl Tryd.func24 (by kernel_rfl) rfl #[.slice A0 l0.length c0] rfl hL_ ?_; (with_reducible refine (sleuthref12_TrailMay.calls k _ _ l0 false _ ?side1 ?side2 A4.out).mono ?_); (case side1 => repeat (first | exact (Kd.C_below HR0.out HB.out) | (with_reducible refine Kd.C_alloc ?_ _) | (with_reducible refine Kd.C_drewN ?_ _) | (with_reducible refine Kd.C_drew ?_))); (case side2 => exact HC0.out); rintro e w43 ⟨rfl, hb⟩; refine ⟨_, rfl, ?_⟩; have n0_ := Aside0.mk (below_step hB_ hb); clear HB; have HB := n0_; clear n0_; (try clear hb); (try clear hb2); (try clear hk); (try clear hi)))
      go_ret
      exact ⟨by first | rfl | (simp [errW_none, errW_some] <;> rfl) | (simp [*, errW_none, errW_some] <;> rfl), by repeat (first | (with_reducible first | exact HB.out | apply below_alloc | apply pw_below_drewN | apply below_drew1) | exact HB.out)⟩
  · replace c3 := Bool.eq_false_iff.mpr c3
    subst c3
    have H1 : (some false) = some r := by rw [if_neg (show ¬ (false = true) by decide)] at H; exact H
    clear H
    have H := H1
    clear H1
    obtain rfl := Option.some.inj H
    go_enter Tryd.func6, Tryd.ntmps6
    go_wp2_with (first | ((with_reducible refine gate_callee (f := 23) rfl ?_); refine goesL_ (some 9) rfl rfl Tryd.func23 (by kernel_rfl) rfl #[] rfl hL_ ?_; (with_reducible refine (sleuthlaw13_awake.calls k  false _ A2.out hG_).mono ?_); rintro e w44 ⟨rfl, hb⟩; refine ⟨_, rfl, ?_⟩; have n0_ := Aside0.mk (below_step hB_ hb); clear HB; have HB := n0_; clear n0_; (try clear hb); (try clear hb2); (try clear hk); (try clear hi)))
    go_ret
    exact ⟨by first | rfl | (simp [errW_none, errW_some] <;> rfl) | (simp [*, errW_none, errW_some] <;> rfl), by repeat (first | (with_reducible first | exact HB.out | apply below_alloc | apply pw_below_drewN | apply below_drew1) | exact HB.out)⟩

end Go.Proofs.YtgcdbpnflchobaaDoor.G
