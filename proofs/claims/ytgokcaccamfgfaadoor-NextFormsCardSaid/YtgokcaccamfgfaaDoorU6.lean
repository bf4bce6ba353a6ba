/- Parts of this proof, one behind the other: G16, G17, G18, G19, G20, G21, G22, G23, G24. -/
import Derived.Test.YtgokcaccamfgfaaDoorU2
import Derived.Test.YtgokcaccamfgfaaDoorG0
import Derived.Test.YtgokcaccamfgfaaDoorU5
section
-- Laid by the session's own driver gp.py over the kit's printer. Not trusted: Lean checks it.
namespace Go.Proofs.YtgokcaccamfgfaaDoor.G
open Go.RowKit Go.Proofs.YtgokcaccamfgfaaDoorW.PrintWords Go.Proofs.YtgokcaccamfgfaaDoorW.PrintLast Go.Proofs.YtgokcaccamfgfaaDoorW.PrintMore
set_option maxHeartbeats 8000000
set_option maxRecDepth 100000
attribute [local go_sem] max2_int min2_int max_two min_two max_three min_three max_four min_four   -- for this text's walks alone
set_option linter.unusedVariables false
set_option linter.unusedSimpArgs false

mutual
def next_Marks.j0 : Nat → Bool → List (S33) → Int → List (S26) → Option (List Int × Int)
 | 0, _, _, _, _ => none
 | k + 1, x16, x150000, x150001, x150002 => if x16 = true then (some (([] : List Int), 2000)) else (if 0 ≤ (x150000.length : Int) then (if ((x150000.length : Int) : Int).toNat ≤ 35184372088832 then (next_Marks.l0 k (List.replicate ((x150000.length : Int) : Int).toNat 0) x150002 (x150002.length : Int) 0) else (none)) else (none))
def next_Marks.l0 : Nat → List Int → List (S26) → Int → Int → Option (List Int × Int)
 | 0, _, _, _, _ => none
 | k + 1, x4, x22, x23, x24 => if x24 < x23 then (if 0 ≤ x24 then (if x24 < (x22.length : Int) then (if ((rd_T26 x22 x24).f0) < 0 then (some (([] : List Int), 2000)) else (if ((rd_T26 x22 x24).f0) ≥ (x4.length : Int) then (some (([] : List Int), 2000)) else ((next_Mark.f ((rd_T26 x22 x24).f1)).bind fun t156 => (if t156 = true then (if 0 ≤ ((rd_T26 x22 x24).f0) then (if ((rd_T26 x22 x24).f0) < (x4.length : Int) then (next_Marks.l0 k (x4.set (((rd_T26 x22 x24).f0) : Int).toNat ((rd_T26 x22 x24).f1)) x22 x23 (wrap64 (x24 + 1))) else (none)) else (none)) else (some (([] : List Int), 2000)))))) else (none)) else (none)) else (some (x4, 0))
end
def next_Marks.f (k : Nat) (l0_0 : List (S33)) (a0_1 : Int) (l0_2 : List (S26)) : Option (List Int × Int) := (trail_May.f k l0_0).bind fun t150 => (if t150 = true then (next_Marks.j0 k (decide ((l0_2.length : Int) > 512)) l0_0 a0_1 l0_2) else (next_Marks.j0 k true l0_0 a0_1 l0_2))
theorem next_Marks.mono_l : ∀ k, (∀ y0 y1 y2 y3, LeO (next_Marks.j0 k y0 y1 y2 y3) (next_Marks.j0 (k + 1) y0 y1 y2 y3)) ∧ (∀ y0 y1 y2 y3, LeO (next_Marks.l0 k y0 y1 y2 y3) (next_Marks.l0 (k + 1) y0 y1 y2 y3))
 | 0 => ⟨fun _ _ _ _ r h => by simp [next_Marks.j0] at h, fun _ _ _ _ r h => by simp [next_Marks.l0] at h⟩
 | k + 1 => by
  obtain ⟨ih0, ih1⟩ := next_Marks.mono_l k
  refine ⟨?_, ?_⟩
  · intro y0 y1 y2 y3
    unfold next_Marks.j0
    repeat' first
    | (with_reducible exact ih0 _ _ _ _)
    | (with_reducible exact ih1 _ _ _ _)
    | (with_reducible exact trail_May.mono _ _)
    | (with_reducible exact LeO.refl _)
    | (with_reducible exact LeO.none _)
    | (with_reducible refine LeO.ite ?_ ?_)
    | (with_reducible refine LeO.bind ?_ (fun _ => ?_))
    | exact ih0 _ _ _ _
    | exact ih1 _ _ _ _
    | exact trail_May.mono _ _
    | exact LeO.none _
    | refine LeO.ite ?_ ?_
    | refine LeO.bind ?_ (fun _ => ?_)
  · intro y0 y1 y2 y3
    unfold next_Marks.l0
    repeat' first
    | (with_reducible exact ih0 _ _ _ _)
    | (with_reducible exact ih1 _ _ _ _)
    | (with_reducible exact trail_May.mono _ _)
    | (with_reducible exact LeO.refl _)
    | (with_reducible exact LeO.none _)
    | (with_reducible refine LeO.ite ?_ ?_)
    | (with_reducible refine LeO.bind ?_ (fun _ => ?_))
    | exact ih0 _ _ _ _
    | exact ih1 _ _ _ _
    | exact trail_May.mono _ _
    | exact LeO.none _
    | refine LeO.ite ?_ ?_
    | refine LeO.bind ?_ (fun _ => ?_)
theorem next_Marks.mono : ∀ a0 a1 a2 k, LeO (next_Marks.f k a0 a1 a2) (next_Marks.f (k + 1) a0 a1 a2) := by
 intro a0 a1 a2 k
 obtain ⟨ih0, ih1⟩ := next_Marks.mono_l k
 unfold next_Marks.f
 repeat' first
  | (with_reducible exact ih0 _ _ _ _)
  | (with_reducible exact ih1 _ _ _ _)
  | (with_reducible exact trail_May.mono _ _)
  | (with_reducible exact LeO.refl _)
  | (with_reducible exact LeO.none _)
  | (with_reducible refine LeO.ite ?_ ?_)
  | (with_reducible refine LeO.bind ?_ (fun _ => ?_))
  | exact ih0 _ _ _ _
  | exact ih1 _ _ _ _
  | exact trail_May.mono _ _
  | exact LeO.none _
  | refine LeO.ite ?_ ?_
  | refine LeO.bind ?_ (fun _ => ?_)
theorem next_Marks.calls (k : Nat) (A0_0 : Option Addr) (c0_0 : Nat) (l0_0 : List (S33)) (a0_1 : Int) (A0_2 : Option Addr) (c0_2 : Nat) (l0_2 : List (S26)) (r1 : List Int) (r2 : Int) (w : World) (hr0_0 : Kd.C k33 w A0_0 l0_0.length l0_0) (hc0_0 : l0_0.length ≤ c0_0) (hr0_2 : Kd.C k26 w A0_2 l0_2.length l0_2) (hc0_2 : l0_2.length ≤ c0_2) (h : next_Marks.f k l0_0 a0_1 l0_2 = some (r1, r2)) (hG : GOK w) :
 Calls Tryd.prog 9 #[.agg #[.slice A0_0 l0_0.length c0_0, .int .i64 a0_1, .slice A0_2 l0_2.length c0_2]] w fun e w' => ∃ v0_ : Value, e = .returned (.tuple #[v0_, .int .i64 r2]) ∧ Kd.R (Kd.int .i64) 3 w' w.heap.size (fun _ => True) v0_ r1 ∧ Below w.heap.size w w' := by
 have hu29 := Tryd.underlying29
 have hu26 := Tryd.underlying26
 have HR0_0 := a_ hr0_0
 have HC0_0 := a_ hc0_0
 clear hr0_0 hc0_0
 have HR0_2 := a_ hr0_2
 have HC0_2 := a_ hc0_2
 clear hr0_2 hc0_2
 have HB := a_ (Below.refl w.heap.size w)
 have H := h; unfold next_Marks.f at H
 clear h
 have HC2 := a_ H
 clear H
 go_enter Tryd.func9, Tryd.ntmps9
 go_upto_region 1 with (first | ((with_reducible refine gate_dst (N := 1) rfl ?_); (try (refine gate_guard (by rfl) ?_; dsimp only)); refine boxE_ 1 #[.slice A0_0 l0_0.length c0_0, .int .i64 a0_1, .slice A0_2 l0_2.length c0_2] 29 ?_; intro gb149 hg w3 hbox hb; have BK149 := a_ (hbox); have GW149 := a_ ((gE_ hg : w.heap.size ≤ gb149)); have GE149 := a_ ((gE_ hg : w.heap.size ≤ gb149)); replace HB := a_ (below_step hB_ hb); clear hb hbox hg))
 (try simp only [Act.put, List.setIfInBounds_toArray, List.set_cons_zero, List.set_cons_succ])
 go_cut [16] (fun v16 wc => ∃ (kq : Nat) (x16_1 : Bool), v16 = .bool x16_1 ∧ Aside0 (next_Marks.j0 kq x16_1 l0_0 a0_1 l0_2 = some (r1, r2)) ∧ Aside0 (kq ≤ k) ∧ Aside0 (wc.heap[gb149]? = some (.cells #[(.slice A0_0 l0_0.length c0_0), .int .i64 a0_1, (.slice A0_2 l0_2.length c0_2)] 29 (0, 0))) ∧ Aside0 (Below w.heap.size w wc))
 case first =>
  have H := HC2.out
  clear HC2
  replace H := Option.bind_eq_some_iff.mp H
  obtain ⟨t150, A40, H⟩ := H
  try dsimp only at H
  have A4 := a_ A40
  clear A40
  by_cases c5 : t150 = true
  case neg =>
   replace c5 := Bool.eq_false_iff.mpr c5
   subst c5
   rw [if_neg (show ¬ (false = true) by decide)] at H
   have H' := a_ H
   clear H
   obtain ⟨hcz9_0, hcz9_1, hcz9_2, hfz9_0, hfz9_1, hfz9_2⟩ := bx3_ BK149.out
   go_wp2_with (first | ((with_reducible refine gate_callee (f := 18) rfl ?_); refine goesL_ (some 9) rfl rfl Tryd.func18 (by kernel_rfl) rfl #[.slice A0_0 l0_0.length c0_0] rfl hL_ ?_; (with_reducible refine (trail_May.calls k _ _ l0_0 false _ ?side1 ?side2 A4.out (by first | exact hG | exact GOK.below hG hC_)).mono ?_); (case side1 => exact cB_ HR0_0.out); (case side2 => exact HC0_0.out); rintro e w10 ⟨rfl, hb⟩; refine ⟨_, rfl, ?_⟩; replace BK149 := a_ (bB_ BK149.out hb); replace HB := a_ (below_step hC_ hb); (try clear hb); (try clear hb2); (try clear hk); (try clear hi)))
   go_meet
   case rel => exact ⟨_, (true), hW_, H', ⟨by first | omega | exact Nat.le_refl _⟩, ⟨(hK_ BK149.out)⟩, ⟨hC_⟩⟩
  subst c5
  rw [if_pos rfl] at H
  have H' := a_ H
  clear H
  obtain ⟨hcz6_0, hcz6_1, hcz6_2, hfz6_0, hfz6_1, hfz6_2⟩ := bx3_ BK149.out
  go_wp2_with (first | ((with_reducible refine gate_callee (f := 18) rfl ?_); refine goesL_ (some 9) rfl rfl Tryd.func18 (by kernel_rfl) rfl #[.slice A0_0 l0_0.length c0_0] rfl hL_ ?_; (with_reducible refine (trail_May.calls k _ _ l0_0 true _ ?side1 ?side2 A4.out (by first | exact hG | exact GOK.below hG hC_)).mono ?_); (case side1 => exact cB_ HR0_0.out); (case side2 => exact HC0_0.out); rintro e w7 ⟨rfl, hb⟩; refine ⟨_, rfl, ?_⟩; replace BK149 := a_ (bB_ BK149.out hb); replace HB := a_ (below_step hC_ hb); (try clear hb); (try clear hb2); (try clear hk); (try clear hi); obtain ⟨hcz8_0, hcz8_1, hcz8_2, hfz8_0, hfz8_1, hfz8_2⟩ := bx3_ BK149.out))
  go_meet
  case rel => exact ⟨_, (decide ((l0_2.length : Int) > 512)), hW_, H', ⟨by first | omega | exact Nat.le_refl _⟩, ⟨(hK_ BK149.out)⟩, ⟨hC_⟩⟩
 case rest =>
  clear HC2
  try clear c1
  try clear p2
  try clear c5
  try clear c9
  try clear hcz6_0
  try clear hcz6_1
  try clear hcz6_2
  try clear hcz8_0
  try clear hcz8_1
  try clear hcz8_2
  try clear hcz9_0
  try clear hcz9_1
  try clear hcz9_2
  try clear hfz6_0
  try clear hfz6_1
  try clear hfz6_2
  try clear hfz8_0
  try clear hfz8_1
  try clear hfz8_2
  try clear hfz9_0
  try clear hfz9_1
  try clear hfz9_2
  obtain ⟨kq, x16_1, rfl, HA, HJ1, BK149, HB⟩ := hcut
  cases kq with
  | zero => exact absurd HA.out (by simp [next_Marks.j0])
  | succ kj1 =>
   have H := HA.out
   clear HA
   simp only [next_Marks.j0] at H
   by_cases c11 : x16_1 = true
   case pos =>
    subst c11
    rw [if_pos rfl] at H
    simp only [Option.some.injEq, Prod.mk.injEq] at H
    obtain ⟨rfl, rfl⟩ := H
    go_wp2
    go_ret2
    exact ⟨_, hV_, by first | exact Kd.R_nil _ _ _ _ _ | exact Kd.N_nil _ _ _ _ _ | exact Kd.V_nil _ _ _ _ _ | exact Kd.Q_nil _ _ _ _ _ | exact Kd.S_nil _ _ _ _ _, hC_⟩
   replace c11 := Bool.eq_false_iff.mpr c11
   subst c11
   rw [if_neg (show ¬ (false = true) by decide)] at H
   replace H := ifI_ H; obtain ⟨c12, H⟩ := H
   have c12b0 := eq_true c12
   have c12b1 : decide (0 ≤ (l0_0.length : Int)) = true := decide_eq_true c12
   clear c12
   replace H := ifI_ H; obtain ⟨c13, H⟩ := H
   have c13b0 := eq_true c13
   have c13b1 : decide (((l0_0.length : Int) : Int).toNat ≤ 35184372088832) = true := decide_eq_true c13
   clear c13
   obtain ⟨y151, hy151⟩ : ∃ y_ : List Int, y_ = (List.replicate ((l0_0.length : Int) : Int).toNat 0) := ⟨_, rfl⟩
   replace H : (next_Marks.l0 kj1 y151 l0_2 (l0_2.length : Int) 0) = some (r1, r2) := by first | (rw [hy151]; with_reducible exact H) | (have H2_ := (Option.bind_some _ _).symm.trans H; rw [hy151]; with_reducible exact H2_) | (have H2_ := (Option.bind_some _ _).symm.trans H; with_reducible exact H2_) | with_reducible exact H | (rw [hy151]; exact H) | exact H
   have Ny151 := a_ hy151
   clear hy151
   have H' := a_ H
   clear H
   obtain ⟨hcz14_0, hcz14_1, hcz14_2, hfz14_0, hfz14_1, hfz14_2⟩ := bx3_ BK149.out
   go_wp2_with (first | ((with_reducible refine gate_dst (N := 20) rfl ?_); (try (refine gate_guard (by rfl) ?_; dsimp only)); refine Kd.R_make (Kd.int .i64) _ 3 rfl (N := 20) rfl 34 _ _ rfl (l0_0.length : Int) rfl rfl Tryd.underlying34 (.int .i64 0) 8 info3 rfl (by decide) (by omega) 0 (ok := fun _ => True) (okp := fun _ => True) rfl (fun _ hk => hk) trivial (of_decide_eq_true hA_) (Nat.le_trans (Nat.mul_le_mul_right _ (of_decide_eq_true hA_ : (l0_0.length : Int).toNat ≤ 35184372088832)) (by omega)) (Below.refl _ _) (Nat.le_refl _) ?_; intro v152 w15 ho16 hb hg_ hnew_; clear hg_ hnew_; (first | rw [← Ny151.out] at ho16 | (simp only [Int.reduceToNat] at ho16; rw [← Ny151.out] at ho16)); have HO153 := a_ (Kd.R_lower ho16 (below_size hC_)); replace BK149 := a_ (bB_ BK149.out hb); replace HB := a_ (below_step hC_ hb); clear hb ho16; obtain ⟨hcz17_0, hcz17_1, hcz17_2, hfz17_0, hfz17_1, hfz17_2⟩ := bx3_ BK149.out))
   go_loopg [24] kj1 (fun kq v24 w' => ∃ (x4_2 : List Int) (x24_2 : Int), v24 = .int .i64 x24_2 ∧ Aside0 (next_Marks.l0 kq x4_2 l0_2 (l0_2.length : Int) x24_2 = some (r1, r2)) ∧ Aside0 (kq ≤ kj1) ∧ Aside0 (Kd.R (Kd.int .i64) 3 w' w.heap.size (fun _ => True) v152 x4_2) ∧ Aside0 (w'.heap[gb149]? = some (.cells #[(.slice A0_0 l0_0.length c0_0), .int .i64 a0_1, (.slice A0_2 l0_2.length c0_2)] 29 (0, 0))) ∧ Aside0 (Below w.heap.size w w'))
   case atStart => exact ⟨(y151), (0), hW_, H', ⟨Nat.le_refl _⟩, ⟨hR_ HO153.out⟩, ⟨(hK_ BK149.out)⟩, ⟨hC_⟩⟩
   case round =>
    clear H'
    try clear c1
    try clear p2
    try clear c5
    try clear c9
    try clear c11
    try clear c12
    try clear c12b0
    try clear c12b1
    try clear c13
    try clear c13b0
    try clear c13b1
    try clear hcz14_0
    try clear hcz14_1
    try clear hcz14_2
    try clear hcz17_0
    try clear hcz17_1
    try clear hcz17_2
    try clear hcz6_0
    try clear hcz6_1
    try clear hcz6_2
    try clear hcz8_0
    try clear hcz8_1
    try clear hcz8_2
    try clear hcz9_0
    try clear hcz9_1
    try clear hcz9_2
    try clear hfz14_0
    try clear hfz14_1
    try clear hfz14_2
    try clear hfz17_0
    try clear hfz17_1
    try clear hfz17_2
    try clear hfz6_0
    try clear hfz6_1
    try clear hfz6_2
    try clear hfz8_0
    try clear hfz8_1
    try clear hfz8_2
    try clear hfz9_0
    try clear hfz9_1
    try clear hfz9_2
    try clear p2
    obtain ⟨x4_2, x24_2, rfl, HA, HK2, HO_4, BK149, HB⟩ := hrel
    cases gk with
    | zero => exact absurd HA.out (by simp [next_Marks.l0])
    | succ k2 =>
     have H := HA.out
     clear HA
     simp only [next_Marks.l0] at H
     by_cases c18 : x24_2 < (l0_2.length : Int)
     case neg =>
      rw [if_neg c18] at H
      have c18b0 : decide (x24_2 < (l0_2.length : Int)) = false := decide_eq_false c18
      clear c18
      simp only [Option.some.injEq, Prod.mk.injEq] at H
      obtain ⟨rfl, rfl⟩ := H
      go_wp2
      go_ret2
      exact ⟨_, hV_, hR_ HO_4.out, hC_⟩
     rw [if_pos c18] at H
     have c18b0 : decide (x24_2 < (l0_2.length : Int)) = true := decide_eq_true c18
     clear c18
     replace H := ifI_ H; obtain ⟨c19, H⟩ := H
     have c19b0 : decide (0 ≤ x24_2) = true := decide_eq_true c19
     clear c19
     replace H := ifI_ H; obtain ⟨c20, H⟩ := H
     have c20b0 : decide (x24_2 < (l0_2.length : Int)) = true := decide_eq_true c20
     clear c20
     by_cases c21 : ((rd_T26 l0_2 x24_2).f0) < 0
     case pos =>
      rw [if_pos c21] at H
      have c21b0 : decide (((rd_T26 l0_2 x24_2).f0) < 0) = true := decide_eq_true c21
      clear c21
      simp only [Option.some.injEq, Prod.mk.injEq] at H
      obtain ⟨rfl, rfl⟩ := H
      have p154 : 0 ≤ (x24_2 : Int) := of_decide_eq_true hA_
      have q154 : x24_2 < (l0_2.length : Int) := of_decide_eq_true hA_
      obtain ⟨ad154, e154, hx154_0, hx154_1⟩ := at_T26 HR0_2.out x24_2 p154 q154
      cases e154
      replace hx154_0 := cl_ HB.out hx154_0
      replace hx154_1 := cl_ HB.out hx154_1
      replace p154 := eq_true p154
      replace q154 := eq_true q154
      go_wp2_with (first | ((with_reducible refine gate_dst (N := 6) rfl ?_); (try (refine gate_guard (by rfl) ?_; dsimp only)); refine boxE_ 6 #[.int .i64 0, .int .i64 0] 26 ?_; intro gb155 hg w22 hbox hb; replace HO_4 := a_ (Kd.R_below (hR_ HO_4.out) hb); have BK155 := a_ (hbox); have GW155 := a_ ((gE_ hg : w.heap.size ≤ gb155)); have GE155 := a_ ((gE_ hg : w.heap.size ≤ gb155)); replace HB := a_ (below_step hC_ hb); have NB149_155 := a_ ((bL_ BK149.out hg : gb149 ≠ gb155)); have NB155_149 := a_ ((bG_ BK149.out hg : gb155 ≠ gb149)); replace BK149 := a_ (bB_ BK149.out hb); clear hb hbox hg; have hnb23 := NB155_149.out; have hnc23 := NB149_155.out; obtain ⟨hcz24_0, hcz24_1, hfz24_0, hfz24_1⟩ := bx2_ BK155.out) | ((with_reducible refine gate_store (t := 26) (p := 6) rfl ?_); refine store_event (t := 26) (p := 6) (v := ?vo_w25) (w1 := ((w22.setCell ⟨gb155, 0, none⟩ (.int .i64 ((rd_T26 l0_2 x24_2).f0))).setCell ⟨gb155, 1, none⟩ (.int .i64 ((rd_T26 l0_2 x24_2).f1)))) ?hg ?ho ?hn ?hr ?_; (case ho => rfl); (case hg => rfl); (case hn => rfl); (case hr => first | (go_simp; done) | (go_simp; rfl)); intro w25 hw; replace HO_4 : Aside0 (Kd.R (Kd.int .i64) 3 w25 w.heap.size (fun _ => True) v152 x4_2) := ⟨(by rw [hw]; exact (by (with_reducible repeat (first | apply Kd.R_alloc | apply Kd.R_drewN | apply Kd.R_drew)); exact Kd.R_mono (rF_ (rF_ (Kd.R_types HO_4.out BK155.out (by decide)))) (fun _ hk => trivial)))⟩; replace BK149 : Aside0 (w25.heap[gb149]? = some (.cells #[.slice A0_0 l0_0.length c0_0, .int .i64 a0_1, .slice (some ad154) l0_2.length c0_2] 29 (0, 0))) := ⟨(by rw [hw]; exact (bF_ (bF_ (hK_ BK149.out) NB149_155.out) NB149_155.out))⟩; replace BK155 : Aside0 (w25.heap[gb155]? = some (.cells #[.int .i64 ((rd_T26 l0_2 x24_2).f0), .int .i64 ((rd_T26 l0_2 x24_2).f1)] 26 (0, 0))) := ⟨(by rw [hw]; exact (bP_ (bP_ (hK_ BK155.out))))⟩; replace HB : Aside0 (Below w.heap.size w w25) := ⟨(by rw [hw]; exact hC_)⟩; clear hw; obtain ⟨hcz26_0, hcz26_1, hfz26_0, hfz26_1⟩ := bx2_ BK155.out))
      go_ret2
      exact ⟨_, hV_, by first | exact Kd.R_nil _ _ _ _ _ | exact Kd.N_nil _ _ _ _ _ | exact Kd.V_nil _ _ _ _ _ | exact Kd.Q_nil _ _ _ _ _ | exact Kd.S_nil _ _ _ _ _, hC_⟩
     rw [if_neg c21] at H
     have c21b0 : decide (((rd_T26 l0_2 x24_2).f0) < 0) = false := decide_eq_false c21
     clear c21
     by_cases c27 : ((rd_T26 l0_2 x24_2).f0) ≥ (x4_2.length : Int)
     case pos =>
      rw [if_pos c27] at H
      have c27b0 : decide ((x4_2.length : Int) ≤ ((rd_T26 l0_2 x24_2).f0)) = true := decide_eq_true c27
      clear c27
      simp only [Option.some.injEq, Prod.mk.injEq] at H
      obtain ⟨rfl, rfl⟩ := H
      have p154 : 0 ≤ (x24_2 : Int) := of_decide_eq_true hA_
      have q154 : x24_2 < (l0_2.length : Int) := of_decide_eq_true hA_
      obtain ⟨ad154, e154, hx154_0, hx154_1⟩ := at_T26 HR0_2.out x24_2 p154 q154
      cases e154
      replace hx154_0 := cl_ HB.out hx154_0
      replace hx154_1 := cl_ HB.out hx154_1
      replace p154 := eq_true p154
      replace q154 := eq_true q154
      go_wp2_with (first | ((with_reducible refine gate_dst (N := 6) rfl ?_); (try (refine gate_guard (by rfl) ?_; dsimp only)); refine boxE_ 6 #[.int .i64 0, .int .i64 0] 26 ?_; intro gb155 hg w28 hbox hb; replace HO_4 := a_ (Kd.R_below (hR_ HO_4.out) hb); have BK155 := a_ (hbox); have GW155 := a_ ((gE_ hg : w.heap.size ≤ gb155)); have GE155 := a_ ((gE_ hg : w.heap.size ≤ gb155)); replace HB := a_ (below_step hC_ hb); have NB149_155 := a_ ((bL_ BK149.out hg : gb149 ≠ gb155)); have NB155_149 := a_ ((bG_ BK149.out hg : gb155 ≠ gb149)); replace BK149 := a_ (bB_ BK149.out hb); clear hb hbox hg; have hnb29 := NB155_149.out; have hnc29 := NB149_155.out; obtain ⟨hcz30_0, hcz30_1, hfz30_0, hfz30_1⟩ := bx2_ BK155.out) | ((with_reducible refine gate_store (t := 26) (p := 6) rfl ?_); refine store_event (t := 26) (p := 6) (v := ?vo_w31) (w1 := ((w28.setCell ⟨gb155, 0, none⟩ (.int .i64 ((rd_T26 l0_2 x24_2).f0))).setCell ⟨gb155, 1, none⟩ (.int .i64 ((rd_T26 l0_2 x24_2).f1)))) ?hg ?ho ?hn ?hr ?_; (case ho => rfl); (case hg => rfl); (case hn => rfl); (case hr => first | (go_simp; done) | (go_simp; rfl)); intro w31 hw; replace HO_4 : Aside0 (Kd.R (Kd.int .i64) 3 w31 w.heap.size (fun _ => True) v152 x4_2) := ⟨(by rw [hw]; exact (by (with_reducible repeat (first | apply Kd.R_alloc | apply Kd.R_drewN | apply Kd.R_drew)); exact Kd.R_mono (rF_ (rF_ (Kd.R_types HO_4.out BK155.out (by decide)))) (fun _ hk => trivial)))⟩; replace BK149 : Aside0 (w31.heap[gb149]? = some (.cells #[.slice A0_0 l0_0.length c0_0, .int .i64 a0_1, .slice (some ad154) l0_2.length c0_2] 29 (0, 0))) := ⟨(by rw [hw]; exact (bF_ (bF_ (hK_ BK149.out) NB149_155.out) NB149_155.out))⟩; replace BK155 : Aside0 (w31.heap[gb155]? = some (.cells #[.int .i64 ((rd_T26 l0_2 x24_2).f0), .int .i64 ((rd_T26 l0_2 x24_2).f1)] 26 (0, 0))) := ⟨(by rw [hw]; exact (bP_ (bP_ (hK_ BK155.out))))⟩; replace HB : Aside0 (Below w.heap.size w w31) := ⟨(by rw [hw]; exact hC_)⟩; clear hw; obtain ⟨hcz32_0, hcz32_1, hfz32_0, hfz32_1⟩ := bx2_ BK155.out; obtain ⟨Ao33, co33, eo33⟩ := Kd.R_slice HO_4.out; subst eo33))
      go_ret2
      exact ⟨_, hV_, by first | exact Kd.R_nil _ _ _ _ _ | exact Kd.N_nil _ _ _ _ _ | exact Kd.V_nil _ _ _ _ _ | exact Kd.Q_nil _ _ _ _ _ | exact Kd.S_nil _ _ _ _ _, hC_⟩
     rw [if_neg c27] at H
     have c27b0 : decide ((x4_2.length : Int) ≤ ((rd_T26 l0_2 x24_2).f0)) = false := decide_eq_false c27
     clear c27
     replace H := Option.bind_eq_some_iff.mp H
     obtain ⟨t156, A340, H⟩ := H
     try dsimp only at H
     have A34 := a_ A340
     clear A340
     by_cases c35 : t156 = true
     case neg =>
      replace c35 := Bool.eq_false_iff.mpr c35
      subst c35
      rw [if_neg (show ¬ (false = true) by decide)] at H
      simp only [Option.some.injEq, Prod.mk.injEq] at H
      obtain ⟨rfl, rfl⟩ := H
      have p154 : 0 ≤ (x24_2 : Int) := of_decide_eq_true hA_
      have q154 : x24_2 < (l0_2.length : Int) := of_decide_eq_true hA_
      obtain ⟨ad154, e154, hx154_0, hx154_1⟩ := at_T26 HR0_2.out x24_2 p154 q154
      cases e154
      replace hx154_0 := cl_ HB.out hx154_0
      replace hx154_1 := cl_ HB.out hx154_1
      replace p154 := eq_true p154
      replace q154 := eq_true q154
      go_wp2_with (first | ((with_reducible refine gate_dst (N := 6) rfl ?_); (try (refine gate_guard (by rfl) ?_; dsimp only)); refine boxE_ 6 #[.int .i64 0, .int .i64 0] 26 ?_; intro gb155 hg w47 hbox hb; replace HO_4 := a_ (Kd.R_below (hR_ HO_4.out) hb); have BK155 := a_ (hbox); have GW155 := a_ ((gE_ hg : w.heap.size ≤ gb155)); have GE155 := a_ ((gE_ hg : w.heap.size ≤ gb155)); replace HB := a_ (below_step hC_ hb); have NB149_155 := a_ ((bL_ BK149.out hg : gb149 ≠ gb155)); have NB155_149 := a_ ((bG_ BK149.out hg : gb155 ≠ gb149)); replace BK149 := a_ (bB_ BK149.out hb); clear hb hbox hg; have hnb48 := NB155_149.out; have hnc48 := NB149_155.out; obtain ⟨hcz49_0, hcz49_1, hfz49_0, hfz49_1⟩ := bx2_ BK155.out) | ((with_reducible refine gate_store (t := 26) (p := 6) rfl ?_); refine store_event (t := 26) (p := 6) (v := ?vo_w50) (w1 := ((w47.setCell ⟨gb155, 0, none⟩ (.int .i64 ((rd_T26 l0_2 x24_2).f0))).setCell ⟨gb155, 1, none⟩ (.int .i64 ((rd_T26 l0_2 x24_2).f1)))) ?hg ?ho ?hn ?hr ?_; (case ho => rfl); (case hg => rfl); (case hn => rfl); (case hr => first | (go_simp; done) | (go_simp; rfl)); intro w50 hw; replace HO_4 : Aside0 (Kd.R (Kd.int .i64) 3 w50 w.heap.size (fun _ => True) v152 x4_2) := ⟨(by rw [hw]; exact (by (with_reducible repeat (first | apply Kd.R_alloc | apply Kd.R_drewN | apply Kd.R_drew)); exact Kd.R_mono (rF_ (rF_ (Kd.R_types HO_4.out BK155.out (by decide)))) (fun _ hk => trivial)))⟩; replace BK149 : Aside0 (w50.heap[gb149]? = some (.cells #[.slice A0_0 l0_0.length c0_0, .int .i64 a0_1, .slice (some ad154) l0_2.length c0_2] 29 (0, 0))) := ⟨(by rw [hw]; exact (bF_ (bF_ (hK_ BK149.out) NB149_155.out) NB149_155.out))⟩; replace BK155 : Aside0 (w50.heap[gb155]? = some (.cells #[.int .i64 ((rd_T26 l0_2 x24_2).f0), .int .i64 ((rd_T26 l0_2 x24_2).f1)] 26 (0, 0))) := ⟨(by rw [hw]; exact (bP_ (bP_ (hK_ BK155.out))))⟩; replace HB : Aside0 (Below w.heap.size w w50) := ⟨(by rw [hw]; exact hC_)⟩; clear hw; obtain ⟨hcz51_0, hcz51_1, hfz51_0, hfz51_1⟩ := bx2_ BK155.out; obtain ⟨Ao52, co52, eo52⟩ := Kd.R_slice HO_4.out; subst eo52) | (go_at_call 19; (with_reducible refine (next_Mark.calls ((rd_T26 l0_2 x24_2).f1) false _ A34.out).mono ?_); rintro e w' ⟨rfl, ⟨nd, rfl⟩⟩))
      go_ret2
      exact ⟨_, hV_, by first | exact Kd.R_nil _ _ _ _ _ | exact Kd.N_nil _ _ _ _ _ | exact Kd.V_nil _ _ _ _ _ | exact Kd.Q_nil _ _ _ _ _ | exact Kd.S_nil _ _ _ _ _, hC_⟩
     subst c35
     rw [if_pos rfl] at H
     replace H := ifI_ H; obtain ⟨c36, H⟩ := H
     have c36b0 : decide (0 ≤ ((rd_T26 l0_2 x24_2).f0)) = true := decide_eq_true c36
     clear c36
     replace H := ifI_ H; obtain ⟨c37, H⟩ := H
     have c37b0 : decide (((rd_T26 l0_2 x24_2).f0) < (x4_2.length : Int)) = true := decide_eq_true c37
     clear c37
     obtain ⟨y157, hy157⟩ : ∃ y_ : List Int, y_ = (x4_2.set (((rd_T26 l0_2 x24_2).f0) : Int).toNat ((rd_T26 l0_2 x24_2).f1)) := ⟨_, rfl⟩
     replace H : (next_Marks.l0 k2 y157 l0_2 (l0_2.length : Int) (wrap64 (x24_2 + 1))) = some (r1, r2) := by first | (rw [hy157]; with_reducible exact H) | (have H2_ := (Option.bind_some _ _).symm.trans H; rw [hy157]; with_reducible exact H2_) | (have H2_ := (Option.bind_some _ _).symm.trans H; with_reducible exact H2_) | with_reducible exact H | (rw [hy157]; exact H) | exact H
     have Ny157 := a_ hy157
     clear hy157
     have H' := a_ H
     clear H
     have p154 : 0 ≤ (x24_2 : Int) := of_decide_eq_true hA_
     have q154 : x24_2 < (l0_2.length : Int) := of_decide_eq_true hA_
     obtain ⟨ad154, e154, hx154_0, hx154_1⟩ := at_T26 HR0_2.out x24_2 p154 q154
     cases e154
     replace hx154_0 := cl_ HB.out hx154_0
     replace hx154_1 := cl_ HB.out hx154_1
     replace p154 := eq_true p154
     replace q154 := eq_true q154
     go_wp2_with (first | ((with_reducible refine gate_dst (N := 6) rfl ?_); (try (refine gate_guard (by rfl) ?_; dsimp only)); refine boxE_ 6 #[.int .i64 0, .int .i64 0] 26 ?_; intro gb155 hg w39 hbox hb; replace HO_4 := a_ (Kd.R_below (hR_ HO_4.out) hb); have BK155 := a_ (hbox); have GW155 := a_ ((gE_ hg : w.heap.size ≤ gb155)); have GE155 := a_ ((gE_ hg : w.heap.size ≤ gb155)); replace HB := a_ (below_step hC_ hb); have NB149_155 := a_ ((bL_ BK149.out hg : gb149 ≠ gb155)); have NB155_149 := a_ ((bG_ BK149.out hg : gb155 ≠ gb149)); replace BK149 := a_ (bB_ BK149.out hb); clear hb hbox hg; have hnb40 := NB155_149.out; have hnc40 := NB149_155.out; obtain ⟨hcz41_0, hcz41_1, hfz41_0, hfz41_1⟩ := bx2_ BK155.out) | ((with_reducible refine gate_store (t := 26) (p := 6) rfl ?_); refine store_event (t := 26) (p := 6) (v := ?vo_w42) (w1 := ((w39.setCell ⟨gb155, 0, none⟩ (.int .i64 ((rd_T26 l0_2 x24_2).f0))).setCell ⟨gb155, 1, none⟩ (.int .i64 ((rd_T26 l0_2 x24_2).f1)))) ?hg ?ho ?hn ?hr ?_; (case ho => rfl); (case hg => rfl); (case hn => rfl); (case hr => first | (go_simp; done) | (go_simp; rfl)); intro w42 hw; replace HO_4 : Aside0 (Kd.R (Kd.int .i64) 3 w42 w.heap.size (fun _ => True) v152 x4_2) := ⟨(by rw [hw]; exact (by (with_reducible repeat (first | apply Kd.R_alloc | apply Kd.R_drewN | apply Kd.R_drew)); exact Kd.R_mono (rF_ (rF_ (Kd.R_types HO_4.out BK155.out (by decide)))) (fun _ hk => trivial)))⟩; replace BK149 : Aside0 (w42.heap[gb149]? = some (.cells #[.slice A0_0 l0_0.length c0_0, .int .i64 a0_1, .slice (some ad154) l0_2.length c0_2] 29 (0, 0))) := ⟨(by rw [hw]; exact (bF_ (bF_ (hK_ BK149.out) NB149_155.out) NB149_155.out))⟩; replace BK155 : Aside0 (w42.heap[gb155]? = some (.cells #[.int .i64 ((rd_T26 l0_2 x24_2).f0), .int .i64 ((rd_T26 l0_2 x24_2).f1)] 26 (0, 0))) := ⟨(by rw [hw]; exact (bP_ (bP_ (hK_ BK155.out))))⟩; replace HB : Aside0 (Below w.heap.size w w42) := ⟨(by rw [hw]; exact hC_)⟩; clear hw; obtain ⟨hcz43_0, hcz43_1, hfz43_0, hfz43_1⟩ := bx2_ BK155.out; obtain ⟨Ao44, co44, eo44⟩ := Kd.R_slice HO_4.out; subst eo44) | (go_at_call 19; (with_reducible refine (next_Mark.calls ((rd_T26 l0_2 x24_2).f1) true _ A34.out).mono ?_); rintro e w' ⟨rfl, ⟨nd, rfl⟩⟩; (try (rw [drewN_self w42]; generalize hq_ : World.drewN w42 _ = w42; replace HO_4 : Aside0 (Kd.R (Kd.int .i64) 3 w42 w.heap.size (fun _ => True) (.slice Ao44 x4_2.length co44) x4_2) := ⟨by rw [← hq_]; exact (hR_ HO_4.out)⟩; replace BK149 : Aside0 (w42.heap[gb149]? = some (.cells #[.slice A0_0 l0_0.length c0_0, .int .i64 a0_1, .slice (some ad154) l0_2.length c0_2] 29 (0, 0))) := ⟨by rw [← hq_]; exact (hK_ BK149.out)⟩; replace BK155 : Aside0 (w42.heap[gb155]? = some (.cells #[.int .i64 ((rd_T26 l0_2 x24_2).f0), .int .i64 ((rd_T26 l0_2 x24_2).f1)] 26 (0, 0))) := ⟨by rw [← hq_]; exact (hK_ BK155.out)⟩; replace HB : Aside0 (Below w.heap.size w w42) := ⟨by rw [← hq_]; exact hC_⟩; clear hq_; (try have hcu0_0 := bc0_ BK149.out); (try have hfu0_0 := blk_frozen BK149.out 0); (try have hcu0_1 := bc1_ BK149.out); (try have hfu0_1 := blk_frozen BK149.out 1); (try have hcu0_2 := bc2_ BK149.out); (try have hfu0_2 := blk_frozen BK149.out 2); (try have hcu1_0 := bc0_ BK155.out); (try have hfu1_0 := blk_frozen BK155.out 0); (try have hcu1_1 := bc1_ BK155.out); (try have hfu1_1 := blk_frozen BK155.out 1))); have p38 : 0 ≤ (((rd_T26 l0_2 x24_2).f0) : Int) := of_decide_eq_true hA_; have q38 : (((rd_T26 l0_2 x24_2).f0) : Int) < ((x4_2.length : Int) : Int) := of_decide_eq_true hA_; obtain ⟨go38, co38, eo38, gb38, gl38, cl38, HG38⟩ := Kd.R_form HO_4.out (by omega); (first | cases eo38 | (injection eo38 with ea_ en_ ec_; (first | subst ea_ | (injection ea_ with ea_; subst ea_)); subst ec_; clear en_)); have GB38 := a_ gb38; have GG38 := a_ HG38; clear gb38 gl38 HG38; obtain ⟨hx38_0, hf38_0⟩ := Kd.R_celln 0 HO_4.out (((rd_T26 l0_2 x24_2).f0) : Int) p38 q38; replace p38 := eq_true p38; replace q38 := eq_true q38; obtain ⟨hy45_, hz45_⟩ := Kd.R_celln 0 HO_4.out (((rd_T26 l0_2 x24_2).f0) : Int) (of_decide_eq_true hA_) (of_decide_eq_true hA_); have HP45 := Kd.R_putg HO_4.out (((rd_T26 l0_2 x24_2).f0) : Int) ((rd_T26 l0_2 x24_2).f1)) | ((with_reducible refine gate_store (t := 3) (p := 49) rfl ?_); refine store_event (t := 3) (p := 49) (v := ?vo_w46) (w1 := (w42.setCell ⟨go38, (((rd_T26 l0_2 x24_2).f0) : Int).toNat, none⟩ (.int .i64 ((rd_T26 l0_2 x24_2).f1)))) ?hg ?ho ?hn ?hr ?_; (case ho => rfl); (case hg => rfl); (case hn => rfl); (case hr => first | (go_simp; done) | (go_simp; rfl)); intro w46 hw; have hg : w42.grownBy w46 (some go38) := (by rw [hw]; exact HP45.2); have hp_ : Kd.R (Kd.int .i64) 3 w46 w.heap.size (fun _ => True) (.slice (some ⟨go38, 0, none⟩) x4_2.length co44) y157 := (by rw [hw, Ny157.out]; exact HP45.1); clear HP45; replace BK149 := a_ (blk_grown (hK_ BK149.out) hg (Kd.R_ne HO_4.out BK149.out (by decide))); replace BK155 := a_ (blk_grown (hK_ BK155.out) hg (Kd.R_ne HO_4.out BK155.out (by decide))); replace HO_4 := a_ (hp_); replace HB := a_ ((by rw [hw]; exact below_set (HB.out) GB38.out : Below w.heap.size w w46)); clear hg hw hp_))
     go_roundg k2
     case measure => have := HJ1.out; have := HK2.out; omega
     case rel => exact ⟨(y157), (wrap64 (x24_2 + 1)), hW_, H', ⟨by have := HJ1.out; have := HK2.out; omega⟩, ⟨hR_ HO_4.out⟩, ⟨(hK_ BK149.out)⟩, ⟨hC_⟩⟩
end Go.Proofs.YtgokcaccamfgfaaDoor.G
end
section
-- Laid by the session's own driver gp.py over the kit's printer. Not trusted: Lean checks it.
namespace Go.Proofs.YtgokcaccamfgfaaDoor.G
open Go.RowKit Go.Proofs.YtgokcaccamfgfaaDoorW.PrintWords Go.Proofs.YtgokcaccamfgfaaDoorW.PrintLast Go.Proofs.YtgokcaccamfgfaaDoorW.PrintMore
set_option maxHeartbeats 8000000
set_option maxRecDepth 100000
attribute [local go_sem] max2_int min2_int max_two min_two max_three min_three max_four min_four   -- for this text's walks alone
set_option linter.unusedVariables false
set_option linter.unusedSimpArgs false

def next_Way.f (a0 : Int) : Option (Bool) := if a0 = 0 then (some true) else (some (a0 == 1))
theorem next_Way.calls (a0 : Int) (r : Bool) (w : World) (h : next_Way.f a0 = some r) :
 Calls Tryd.prog 20 #[.int .i64 a0] w fun e w' => e = .returned (.bool r) ∧ Drawn0 w w' := by
 have H := h; unfold next_Way.f at H
 clear h
 by_cases c2 : a0 = 0
 case neg =>
  rw [if_neg c2] at H
  have c2b0 : (a0 == 0) = false := beq_eq_false_iff_ne.mpr c2
  have c2b1 : (a0 != 0) = true := bne_iff_ne.mpr c2
  obtain rfl := Option.some.inj H
  go_enter Tryd.func20, Tryd.ntmps20
  go_wp2
  go_ret
  exact ⟨by first | rfl | (simp; done) | (simp [*]; done), by repeat (first | exact Drawn0.refl _ | apply Drawn0.step)⟩

 rw [if_pos c2] at H
 have c2b0 : (a0 == 0) = true := beq_iff_eq.mpr c2
 have c2b1 : (a0 != 0) = false := bne_eq_false_iff_eq.mpr c2
 clear c2
 obtain rfl := Option.some.inj H
 go_enter Tryd.func20, Tryd.ntmps20
 go_wp2
 go_ret
 exact ⟨by first | rfl | (simp; done) | (simp [*]; done), by repeat (first | exact Drawn0.refl _ | apply Drawn0.step)⟩
end Go.Proofs.YtgokcaccamfgfaaDoor.G
end
section
-- Laid by the session's own driver gp.py over the kit's printer. Not trusted: Lean checks it.
namespace Go.Proofs.YtgokcaccamfgfaaDoor.G
open Go.RowKit Go.Proofs.YtgokcaccamfgfaaDoorW.PrintWords Go.Proofs.YtgokcaccamfgfaaDoorW.PrintLast Go.Proofs.YtgokcaccamfgfaaDoorW.PrintMore
set_option maxHeartbeats 8000000
set_option maxRecDepth 100000
attribute [local go_sem] max2_int min2_int max_two min_two max_three min_three max_four min_four   -- for this text's walks alone
set_option linter.unusedVariables false
set_option linter.unusedSimpArgs false

/-- a node's kids among those ahead of place i -/
def kidsTo (ns : List S33) (a : Int) : Nat → List Int
 | 0 => []
 | i + 1 => if a < (i : Int) ∧ (rd_T33 ns (i : Int)).f1 = a then kidsTo ns a i ++ [(i : Int)] else kidsTo ns a i
theorem kidsTo_pre (ns : List S33) (a : Int) : ∀ {i j : Nat}, i ≤ j → kidsTo ns a i <+: kidsTo ns a j := by
 intro i j h
 induction h with
 | refl => exact List.prefix_refl _
 | step _ ih =>
  rw [kidsTo]
  split
  · exact ih.trans (List.prefix_append _ _)
  · exact ih
theorem kidsTo_none (ns : List S33) (a : Int) : ∀ (i : Nat), (i : Int) ≤ a + 1 → kidsTo ns a i = []
 | 0, _ => rfl
 | i + 1, h => by rw [kidsTo, if_neg (by omega), kidsTo_none ns a i (by omega)]
theorem kidsTo_len (ns : List S33) (a : Int) : ∀ (i : Nat), (kidsTo ns a i).length ≤ i
 | 0 => Nat.le_refl _
 | i + 1 => by
  have := kidsTo_len ns a i
  rw [kidsTo]
  split <;> simp <;> omega

section
attribute [local go_sem] Oper.semAt_some
theorem tree_Below_1.in_ (n : Nat) (hn : 1 ≤ n) (l Bn Ba n₁ N : Nat) (A0 : Option Addr) (c0 : Nat) (l0 : List S33) (a1 : Int) (ha0 : 0 ≤ a1) (ha1 : a1 < (l0.length : Int)) (hlen : l0.length ≤ 9223372036854775806) (w : World) (hC : Kd.C k33 w A0 l0.length l0)
 (hN : ∀ i, i < l0.length → (kidsTo l0 a1 i).length < N) (J Jx : List Int → World → Prop) (hJd : ∀ s W n, J s W → J s (W.drewN n))
 (hY : ∀ pre x W, J pre W → pre.length < N → (0 ≤ x ∧ x < (l0.length : Int)) → YieldAt Fence.wide (n - 1) Tryd.prog l #[.int .i64 x] W fun e W' =>
  (e = .returned (.bool true) ∧ J (pre ++ [x]) W' ∧ Below n₁ W W') ∨ (e = .returned (.bool false) ∧ Jx (pre ++ [x]) W'))
 (W : World) (hB : Below w.heap.size w W) (hw : w.heap.size ≤ n₁) (hBn : W.cell? ⟨Bn, 0, none⟩ = some (.slice A0 l0.length c0)) (hBa : W.cell? ⟨Ba, 0, none⟩ = some (.int .i64 a1)) (hbn : Bn < n₁) (hba : Ba < n₁) (h0 : J [] W) :
 CallsIn Fence.wide n Tryd.prog 58 #[.func (.yield l) #[] #[], .pointer (some ⟨Ba, 0, none⟩), .pointer (some ⟨Bn, 0, none⟩)] W fun e W' => (∃ v, e = .returned v) ∧
  ((∃ ys, ys = kidsTo l0 a1 l0.length ∧ J ys W') ∨ (∃ pre, pre <+: kidsTo l0 a1 l0.length ∧ Jx pre W')) := by
 refine callsIn_of_wp Tryd.func58 rfl trivial ?_ rfl
 simp only [Tryd.ntmps58, List.size_toArray, List.length_cons, List.length_nil, Nat.reduceAdd, Nat.reduceSub, Array.replicate_succ, Array.replicate_zero, List.push_toArray, List.append_toArray, List.nil_append, List.cons_append]
 gi_wp2
 gi_loopw [4] (fun i wr => ∃ x : Int, i = .int .i64 x ∧ Aside0 (a1 < x ∧ x ≤ (l0.length : Int)) ∧ Aside0 (J (kidsTo l0 a1 x.toNat) wr ∧ Below n₁ W wr))
  (fun i _ => l0.length - (intOf i).toNat)
 case atStart => exact ⟨a1 + 1, by first | rfl | (congr 1; omega) | (simp; omega), ⟨by omega, by omega⟩, ⟨by rw [kidsTo_none _ _ _ (by omega)]; exact h0, Below.refl _ _⟩⟩
 case round =>
  obtain ⟨x, rfl, HX, HJ⟩ := hrel
  have hcn := (HJ.out.2.cell (p := ⟨Bn, 0, none⟩) hbn).trans hBn
  have hca := (HJ.out.2.cell (p := ⟨Ba, 0, none⟩) hba).trans hBa
  by_cases hlt : x < (l0.length : Int)
  case neg =>
   have hltb := decide_eq_false hlt
   have hxl : x.toNat = l0.length := by have := HX.out; omega
   have HX2 := a_ hxl
   clear hxl hlt
   gi_wp2
   go_end0
   exact ⟨⟨_, rfl⟩, .inl ⟨_, rfl, by rw [← HX2.out]; exact HJ.out.1⟩⟩
  have hx0 : 0 ≤ x := by have := HX.out; omega
  obtain ⟨ad, A2, c2, e0, g0, g1, g2, g3, hl2, hi2⟩ := at_T33 hC x hx0 hlt
  cases e0
  have hbw : Below w.heap.size w wr := hB.trans (HJ.out.2.mono hw)
  have hp := (hbw.cell (World.block_lt_of_cell? w _ g1)).trans g1
  clear g0 g1 g2 g3 hl2 hi2
  have hxt : (x + 1).toNat = x.toNat + 1 := by omega
  have hxe : ((x.toNat : Nat) : Int) = x := by omega
  have hw1 : IntKind.i64.wrap (x + 1) = x + 1 := IntWalk.i64_in _ (by omega)
  have hw2 := a_ hw1
  clear hw1
  have hlt0 := a_ (And.intro hlt (And.intro hxt hxe))
  clear hxt hxe
  have hltb := decide_eq_true hlt
  replace hlt := eq_true hlt
  replace hx0 := eq_true hx0
  have hmix : Tryd.prog.follows .mixedOrders = true := by kernel_rfl
  by_cases hpar : (rd_T33 l0 x).f1 = a1
  case neg =>
   have hparb : ((rd_T33 l0 x).f1 == a1) = false := beq_eq_false_iff_ne.2 hpar
   have hkid : kidsTo l0 a1 (x.toNat + 1) = kidsTo l0 a1 x.toNat := by rw [kidsTo, hlt0.out.2.2, if_neg (fun h => hpar h.2)]
   have HK := a_ hkid
   clear hkid hpar
   have HY := a_ (And.intro hY hJd)
   clear hY hJd
   clear hN hBa hBn hC h0
   gi_wp2
   refine wpIn_mono (Q := fun e a w' => e = .normal ∧ ∃ (t7 t8 t9 t10 t11 t12 t13 t14 t15 t16 t17 t18 t19 t20 t21 t22 t23 t24 : Value), a = { tmps := #[.func (.yield l) #[] #[], .pointer (some ⟨Ba, 0, none⟩), .pointer (some ⟨Bn, 0, none⟩), undef, .int .i64 x, .int .i64 a1, .int .i64 (a1 + 1), t7, t8, t9, t10, t11, t12, t13, t14, t15, t16, t17, t18, t19, t20, t21, t22, t23, t24, .bool false], defers := [] } ∧ ∃ nq, w' = wr.drewN nq) ?reg ?post
   case reg =>
    clear HY HK HX HJ hlt0 hw2 hbw hB hw
    refine wpIn_region_quiet_lit rfl hmix (by kernel_rfl) ?_
    iterate 10 (quiet_step_in (fail))
    refine BigFrame.wpQuietIn_skip (fun _ _ _ _ => trivial) (by first | rfl | kernel_rfl | simp [Region.wanted, yielded]) ?_
    simp only [Act.put, List.setIfInBounds_toArray, List.set_cons_succ, List.set_cons_zero]
    iterate 2 (quiet_step_in (fail))
    refine wpQuietIn_nil ?_
    intro _ hw'
    obtain ⟨nq, hw''⟩ := hw'
    subst hw''
    exact ⟨trivial, _, _, _, _, _, _, _, _, _, _, _, _, _, _, _, _, _, _, rfl, _, rfl⟩
   case post =>
    rintro e a W3 ⟨rfl, t7, t8, t9, t10, t11, t12, t13, t14, t15, t16, t17, t18, t19, t20, t21, t22, t23, t24, rfl, nq, rfl⟩
    clear hparb hp
    gi_wp2
    refine ⟨⟨x + 1, by rw [show wrap64 (x + 1) = x + 1 from by have := HX.out; have := hlt0.out.1; unfold wrap64; omega], ⟨by have := HX.out; omega, by have := hlt0.out.1; omega⟩, ⟨by rw [hlt0.out.2.1, HK.out]; exact HY.out.2 _ _ nq HJ.out.1, below_dn HJ.out.2 nq⟩⟩, ?_⟩
    rw [show wrap64 (x + 1) = x + 1 from by have := HX.out; have := hlt0.out.1; unfold wrap64; omega]
    have := HX.out
    have := hlt0.out.1
    simp only [intOf]
    omega
  have hparb : ((rd_T33 l0 x).f1 == a1) = true := beq_iff_eq.2 hpar
  have hkid : kidsTo l0 a1 (x.toNat + 1) = kidsTo l0 a1 x.toNat ++ [x] := by rw [kidsTo, hlt0.out.2.2, if_pos ⟨HX.out.1, hpar⟩]
  have HK := a_ hkid
  clear hkid hpar
  have HY := a_ (fun nq => hY _ x (wr.drewN nq) (hJd _ _ nq HJ.out.1) (hN x.toNat (by have := hlt0.out.1; omega)) ⟨by have := HX.out; omega, hlt0.out.1⟩)
  clear hY hJd hN hBa hBn hC h0
  gi_wp2
  refine wpIn_mono (Q := fun e a w' => e = .normal ∧ ∃ (b : Bool) (t7 t8 t9 t10 t11 t12 t13 t14 t15 t16 t17 t18 t19 t20 t21 t22 t23 t24 : Value), a = { tmps := #[.func (.yield l) #[] #[], .pointer (some ⟨Ba, 0, none⟩), .pointer (some ⟨Bn, 0, none⟩), undef, .int .i64 x, .int .i64 a1, .int .i64 (a1 + 1), t7, t8, t9, t10, t11, t12, t13, t14, t15, t16, t17, t18, t19, t20, t21, t22, t23, t24, .bool (!b)], defers := [] } ∧ Aside0 ((b = true ∧ J (kidsTo l0 a1 x.toNat ++ [x]) w' ∧ Below n₁ wr w') ∨ (b = false ∧ Jx (kidsTo l0 a1 x.toNat ++ [x]) w'))) ?reg ?post
  case reg =>
   clear HK HX HJ hlt0 hw2 hbw hB hw
   refine wpIn_region_head 10 rfl hmix (by kernel_rfl) ?_
   simp only [List.take_succ_cons, List.take_zero, List.drop_succ_cons, List.drop_zero]
   iterate 10 (quiet_step_in (fail))
   refine wpQuietIn_nil ?_
   intro _ hw'
   obtain ⟨nq, hw''⟩ := hw'
   subst hw''
   obtain ⟨fn, tmps, assign, body, hy, hR⟩ := HY.out nq
   clear HY
   have HR : RoundIn Fence.wide (n - 1) Tryd.prog l fn tmps assign body (wr.drewN nq) (fun e W' => ∃ b, e = .returned (.bool b) ∧ Aside0 ((b = true ∧ J (kidsTo l0 a1 x.toNat ++ [x]) W' ∧ Below n₁ wr W') ∨ (b = false ∧ Jx (kidsTo l0 a1 x.toNat ++ [x]) W'))) := hR.mono fun e W' hh => by
    rcases hh with ⟨rfl, h1, h2⟩ | ⟨rfl, h1⟩
    · exact ⟨true, rfl, ⟨.inl ⟨rfl, h1, (below_dn (Below.refl _ _) nq).trans h2⟩⟩⟩
    · exact ⟨false, rfl, ⟨.inr ⟨rfl, h1⟩⟩⟩
   clear hR
   gi_wp2
   refine HR.mono ?_
   rintro e W3 ⟨b, rfl, HQ⟩
   gi_wp2
  case post =>
   rintro e a W3 ⟨rfl, b, t7, t8, t9, t10, t11, t12, t13, t14, t15, t16, t17, t18, t19, t20, t21, t22, t23, t24, rfl, HQ⟩
   clear HY hparb hp
   cases b
   · gi_wp2
     refine bodyPost_ret (results_none rfl _ _ _) rfl ?_
     have hq := HQ.out
     simp only [Bool.false_eq_true, false_and, false_or, true_and] at hq
     exact ⟨⟨_, rfl⟩, .inr ⟨_, by rw [← HK.out]; exact kidsTo_pre _ _ (by have := hlt0.out.1; omega), hq⟩⟩
   · have hq := HQ.out
     simp only [Bool.true_eq_false, false_and, or_false, true_and] at hq
     have HQ2 := a_ hq
     clear hq HQ
     gi_wp2
     refine ⟨⟨x + 1, by rw [show wrap64 (x + 1) = x + 1 from by have := HX.out; have := hlt0.out.1; unfold wrap64; omega], ⟨by have := HX.out; omega, by have := hlt0.out.1; omega⟩, ⟨by rw [hlt0.out.2.1, HK.out]; exact HQ2.out.1, HJ.out.2.trans HQ2.out.2⟩⟩, ?_⟩
     rw [show wrap64 (x + 1) = x + 1 from by have := HX.out; have := hlt0.out.1; unfold wrap64; omega]
     have := HX.out
     have := hlt0.out.1
     simp only [intOf]
     omega
/-- tree.Below: two boxes, a function value -/
theorem tree_Below.in_ (n : Nat) (hn : 1 ≤ n) (A0 : Option Addr) (len c0 : Nat) (a1 : Int) (w : World) :
 CallsIn Fence.wide n Tryd.prog 54 #[.slice A0 len c0, .int .i64 a1] w fun e w' => e = .returned (.func (.func 58) #[] #[.pointer (some ⟨w.heap.size + 1, 0, none⟩), .pointer (some ⟨w.heap.size, 0, none⟩)]) ∧ w' = (w.alloc (.cells #[.slice A0 len c0] 23)).alloc (.cells #[.int .i64 a1] 3) := by
 refine callsIn_of_wp Tryd.func54 rfl trivial ?_ rfl
 simp only [Tryd.ntmps54, List.size_toArray, List.length_cons, List.length_nil, Nat.reduceAdd, Nat.reduceSub, Array.replicate_succ, Array.replicate_zero, List.push_toArray, List.append_toArray, List.nil_append, List.cons_append]
 gi_wp2
 go_ret
 exact ⟨rfl, rfl⟩
theorem tree_Below.stops (n : Nat) (hn : 1 ≤ n) (A0 : Option Addr) (c0 : Nat) (l0 : List S33) (a1 : Int) (ha0 : 0 ≤ a1) (ha1 : a1 < (l0.length : Int)) (hlen : l0.length ≤ 9223372036854775806) (w : World) (hC : Kd.C k33 w A0 l0.length l0) (Bn Ba n₁ : Nat) (hn₁ : n₁ ≤ w.heap.size) (hbn : Bn < n₁) (hba : Ba < n₁)
 (hBn : w.cell? ⟨Bn, 0, none⟩ = some (.slice A0 l0.length c0)) (hBa : w.cell? ⟨Ba, 0, none⟩ = some (.int .i64 a1)) (w0 : World) (hw0 : Below w0.heap.size w0 w) (hC0 : Kd.C k33 w0 A0 l0.length l0) (hn0 : w0.heap.size ≤ n₁) :
 SeqStopsK Fence.wide n Tryd.prog 58 #[.pointer (some ⟨Ba, 0, none⟩), .pointer (some ⟨Bn, 0, none⟩)] (fun x : Int => #[Value.int .i64 x]) (Below n₁) (fun ys => ys = kidsTo l0 a1 l0.length) (fun pre => pre <+: kidsTo l0 a1 l0.length) l0.length w := fun l J Jx W hW hJ hJx hY h0 =>
 tree_Below_1.in_ n hn l Bn Ba n₁ l0.length A0 c0 l0 a1 ha0 ha1 hlen w0 hC0 (fun i hi => Nat.lt_of_le_of_lt (kidsTo_len l0 a1 i) hi) J Jx
  (fun s W1 m h => hJ s W1 (W1.drewN m) none h ⟨rfl, rfl, rfl, Nat.le_refl _, fun _ _ _ => rfl⟩ (fun r e => by cases e)) (fun pre x W1 h1 h2 _ => hY pre x W1 h1 h2) W (hw0.trans (hW.mono hw0.size)) hn0 ((hW.cell (p := ⟨Bn, 0, none⟩) (by show Bn < w.heap.size; omega)).trans hBn) ((hW.cell (p := ⟨Ba, 0, none⟩) (by show Ba < w.heap.size; omega)).trans hBa) hbn hba h0
theorem kidsTo_rng (ns : List S33) (a : Int) (x : Int) : ∀ n : Nat, x ∈ kidsTo ns a n → a < x ∧ x < (n : Int) ∧ (rd_T33 ns x).f1 = a
 | 0, h => by rw [kidsTo] at h; cases h
 | n + 1, h => by
  rw [kidsTo] at h
  by_cases c : a < (n : Int) ∧ (rd_T33 ns (n : Int)).f1 = a
  case neg =>
   rw [if_neg c] at h
   have := kidsTo_rng ns a x n h; exact ⟨this.1, by omega, this.2.2⟩
  rw [if_pos c, List.mem_append, List.mem_singleton] at h
  rcases h with h | h
  · have := kidsTo_rng ns a x n h; exact ⟨this.1, by omega, this.2.2⟩
  · subst h; exact ⟨c.1, by omega, c.2⟩
/-- the same of places that are places: a body may look there -/
theorem tree_Below.stopsF (n : Nat) (hn : 1 ≤ n) (A0 : Option Addr) (c0 : Nat) (l0 : List S33) (a1 : Int) (ha0 : 0 ≤ a1) (ha1 : a1 < (l0.length : Int)) (hlen : l0.length ≤ 9223372036854775806) (w : World) (hC : Kd.C k33 w A0 l0.length l0) (Bn Ba n₁ : Nat) (hn₁ : n₁ ≤ w.heap.size) (hbn : Bn < n₁) (hba : Ba < n₁)
 (hBn : w.cell? ⟨Bn, 0, none⟩ = some (.slice A0 l0.length c0)) (hBa : w.cell? ⟨Ba, 0, none⟩ = some (.int .i64 a1)) (w0 : World) (hw0 : Below w0.heap.size w0 w) (hC0 : Kd.C k33 w0 A0 l0.length l0) (hn0 : w0.heap.size ≤ n₁) :
 SeqStopsK Fence.wide n Tryd.prog 58 #[.pointer (some ⟨Ba, 0, none⟩), .pointer (some ⟨Bn, 0, none⟩)] (fun x : {x : Int // 0 ≤ x ∧ x < (l0.length : Int)} => #[Value.int .i64 x.1]) (Below n₁) (fun ys => ys.map (·.1) = kidsTo l0 a1 l0.length) (fun pre => pre.map (·.1) <+: kidsTo l0 a1 l0.length) l0.length w := fun l J Jx W hW hJ hJx hY h0 => by
 refine (tree_Below_1.in_ n hn l Bn Ba n₁ l0.length A0 c0 l0 a1 ha0 ha1 hlen w0 hC0 (fun i hi => Nat.lt_of_le_of_lt (kidsTo_len l0 a1 i) hi) (fun ys W1 => ∃ zs : List {x : Int // 0 ≤ x ∧ x < (l0.length : Int)}, zs.map (·.1) = ys ∧ J zs W1) (fun ys W1 => ∃ zs : List {x : Int // 0 ≤ x ∧ x < (l0.length : Int)}, zs.map (·.1) = ys ∧ Jx zs W1)
  ?_ ?_ W (hw0.trans (hW.mono hw0.size)) hn0 ((hW.cell (p := ⟨Bn, 0, none⟩) (by show Bn < w.heap.size; omega)).trans hBn) ((hW.cell (p := ⟨Ba, 0, none⟩) (by show Ba < w.heap.size; omega)).trans hBa) hbn hba ⟨[], rfl, h0⟩).mono ?_
 · rintro s W1 m ⟨zs, e, h⟩
   exact ⟨zs, e, hJ zs W1 (W1.drewN m) none h ⟨rfl, rfl, rfl, Nat.le_refl _, fun _ _ _ => rfl⟩ (fun r e => by cases e)⟩
 · rintro pre x W1 ⟨zs, e, h⟩ hl hx
   refine (hY zs ⟨x, hx⟩ W1 h (by rw [← e, List.length_map] at hl; exact hl)).mono ?_
   rintro e' W2 (⟨h1, h2, h3⟩ | ⟨h1, h2⟩)
   · exact .inl ⟨h1, ⟨_, by rw [List.map_append, e]; rfl, h2⟩, h3⟩
   · exact .inr ⟨h1, ⟨_, by rw [List.map_append, e]; rfl, h2⟩⟩
 · rintro e' W2 ⟨hv, ⟨ys, hy, zs, e, h⟩ | ⟨pre, hp, zs, e, h⟩⟩
   · exact ⟨hv, .inl ⟨zs, e.trans hy, h⟩⟩
   · exact ⟨hv, .inr ⟨zs, (show zs.map (fun x => x.1) <+: kidsTo l0 a1 l0.length by rw [e]; exact hp), h⟩⟩
end

end Go.Proofs.YtgokcaccamfgfaaDoor.G
end
section
-- Laid by the session's own driver gp.py over the kit's printer. Not trusted: Lean checks it.
namespace Go.Proofs.YtgokcaccamfgfaaDoor.G
open Go.RowKit Go.Proofs.YtgokcaccamfgfaaDoorW.PrintWords Go.Proofs.YtgokcaccamfgfaaDoorW.PrintLast Go.Proofs.YtgokcaccamfgfaaDoorW.PrintMore
set_option maxHeartbeats 8000000
set_option maxRecDepth 100000
attribute [local go_sem] max2_int min2_int max_two min_two max_three min_three max_four min_four   -- for this text's walks alone
set_option linter.unusedVariables false
set_option linter.unusedSimpArgs false

/-- the first of a node's kids with a mark -/
def fstK (ns : List S33) (ms : List Int) (a m : Int) : Option Int := (kidsTo ns a ns.length).find? fun k => rd ms k == m
def top_first.f (l0 : List S33) (l1 : List Int) (a2 a3 : Int) : Option (Int × Bool) :=
 if 0 ≤ a2 ∧ a2 < (l0.length : Int) ∧ l0.length ≤ l1.length ∧ l0.length ≤ 512 then (match fstK l0 l1 a2 a3 with | some k => some (k, true) | none => some (0, false)) else none
theorem bx_four {w : World} {a b c d : Value} {s t u v : TypeId} :
 let w4 := (((w.alloc (.cells #[a] s)).alloc (.cells #[b] t)).alloc (.cells #[c] u)).alloc (.cells #[d] v)
 Boxed w4 w.heap.size s a ∧ Boxed w4 (w.heap.size + 1) t b ∧ Boxed w4 (w.heap.size + 1 + 1) u c ∧ Boxed w4 (w.heap.size + 1 + 1 + 1) v d ∧ Below w.heap.size w w4 ∧ w4.heap.size = w.heap.size + 4 := by
 intro w4
 have h1 := (((Boxed.new w s a).alloc (.cells #[b] t)).alloc (.cells #[c] u)).alloc (.cells #[d] v)
 have h2 := ((Boxed.new (w.alloc (.cells #[a] s)) t b).alloc (.cells #[c] u)).alloc (.cells #[d] v)
 have h3 := (Boxed.new ((w.alloc (.cells #[a] s)).alloc (.cells #[b] t)) u c).alloc (.cells #[d] v)
 have h4 := Boxed.new (((w.alloc (.cells #[a] s)).alloc (.cells #[b] t)).alloc (.cells #[c] u)) v d
 simp only [World.size_alloc] at h2 h3 h4
 have hB : Below w.heap.size w w4 := ((((Below.refl _ w).alloc (Nat.le_refl _) _).alloc (by simp) _).alloc (by simp; omega) _).alloc (by simp; omega) _
 exact ⟨h1, h2, h3, h4, hB, by simp [w4]⟩
theorem boxed_ownT {β : Type} (B b : Nat) (t : TypeId) (v : Value) : OwnFrom B (fun (_ : β) W => Boxed W b t v) := Own.from (boxed_own b t (fun _ => v)) B
theorem find_none_all (l : List Int) (p : Int → Bool) (h : ∀ y ∈ l, p y = false) : l.find? p = none := by
 rw [List.find?_eq_none]
 intro y hy
 rw [h y hy]
 exact Bool.false_ne_true
theorem find_pre (p : Int → Bool) (x : Int) (hx : p x = true) : ∀ (q l : List Int), q ++ [x] <+: l → (∀ y ∈ q, p y = false) → l.find? p = some x
 | [], l, h, _ => by
  obtain ⟨t, rfl⟩ := h
  rw [List.nil_append, List.cons_append, List.find?_cons, hx]
 | y :: q, l, h, hq => by
  cases l with
  | nil => have := List.IsPrefix.length_le h; simp at this
  | cons z l =>
   rw [List.cons_append, List.cons_prefix_cons] at h
   obtain ⟨rfl, h⟩ := h
   rw [List.find?_cons, hq y (List.mem_cons_self ..)]
   exact find_pre p x hx q l h (fun z hz => hq z (List.mem_cons_of_mem _ hz))
theorem first_ends {W w : World} {D : Nat} {tmps : Array Value} {i : Int} {b : Bool} (hK : W.heap[D]? = some (.deferred (some []))) (b0 : Boxed W (w.heap.size + 1 + 1) 3 (.int .i64 i)) (b1 : Boxed W (w.heap.size + 1 + 1 + 1) 4 (.bool b))
 (hB : Below w.heap.size w W) (hD : w.heap.size ≤ D) (h8 : tmps[8]? = some (.pointer (some ⟨w.heap.size + 1 + 1, 0, none⟩))) (h9 : tmps[9]? = some (.pointer (some ⟨w.heap.size + 1 + 1 + 1, 0, none⟩))) :
 bodyPostM Fence.wide 4 Tryd.prog Tryd.f49 (fun e w' => e = .returned (.tuple #[.int .i64 i, .bool b]) ∧ Below w.heap.size w w') .ret { tmps := tmps, defers := [{ target := .collected D, args := #[] }] } W := by
 have e0 := Go.cell_kept b0.cell (grownBy_putObj' _ D (.deferred none)) (fun r e => by cases e; exact ⟨_, hK, rfl⟩)
 have e1 := Go.cell_kept b1.cell (grownBy_putObj' _ D (.deferred none)) (fun r e => by cases e; exact ⟨_, hK, rfl⟩)
 refine ⟨by simp, .inl ⟨_, _, rfl, run_takeDeferred hK, ?_⟩⟩
 refine ⟨.tuple #[.int .i64 i, .bool b], ?_, rfl, hB.trans (belowK_b (w := w) (Nat.le_refl _) W D _ _ hD hK rfl rfl)⟩
 simp [results, Tryd.f49, go_sem, e0, e1, h8, h9]
abbrev KX (n : Nat) := {x : Int // 0 ≤ x ∧ x < (n : Int)}
section
attribute [local go_sem] Oper.semAt_some
theorem top_first.inW (A0 : Option Addr) (c0 : Nat) (l0 : List (S33)) (A1 : Option Addr) (c1 : Nat) (l1 : List Int) (a2 a3 r1 : Int) (r2 : Bool) (w : World) (hr0 : Kd.C k33 w A0 l0.length l0) (hr1 : Kd.C (Kd.int .i64) w A1 l1.length l1) (h0 : 0 ≤ a2) (h1 : a2 < (l0.length : Int)) (hl : l0.length ≤ l1.length) (h512 : l0.length ≤ 512) (hr : (match fstK l0 l1 a2 a3 with | some k => (k, true) | none => (0, false)) = (r1, r2)) :
 CallsIn Fence.wide 4 Tryd.prog 49 #[.slice A0 l0.length c0, .slice A1 l1.length c1, .int .i64 a2, .int .i64 a3] w fun e w' => e = .returned (.tuple #[.int .i64 r1, .bool r2]) ∧ Below w.heap.size w w' := by
 have HR0 := a_ hr0
 have HR1 := a_ hr1
 have HRR := a_ hr
 have HM := a_ (And.intro h0 (And.intro h1 (And.intro hl h512)))
 have hmix : Tryd.prog.follows .mixedOrders = true := by kernel_rfl
 clear hr0 hr1 hr h0 h1 hl h512
 refine callsIn_of_wp_marks Tryd.func49 rfl trivial ?_ rfl
 simp only [Tryd.ntmps49, List.size_toArray, List.length_cons, List.length_nil, Nat.reduceAdd, Nat.reduceSub, Array.replicate_succ, Array.replicate_zero, List.push_toArray, List.append_toArray, List.nil_append, List.cons_append]
 have ff1 : Fence.wide.fn 54 := trivial
 gi_wp2_with (first
  | (gi_at_call 54; refine (tree_Below.in_ _ (by omega) _ _ _ _ _).mono ?_; rintro e w7 ⟨rfl, rfl⟩))
 obtain ⟨bx0, bx1, bx2, bx3, hB4, hs4⟩ := bx_four (w := w) (a := .slice A1 l1.length c1) (b := .int .i64 a3) (c := .int .i64 0) (d := .bool false) (s := 34) (t := 3) (u := 3) (v := 4)
 obtain ⟨w4, hw4⟩ : ∃ w4, (((w.alloc (.cells #[.slice A1 l1.length c1] 34)).alloc (.cells #[.int .i64 a3] 3)).alloc (.cells #[.int .i64 0] 3)).alloc (.cells #[.bool false] 4) = w4 := ⟨_, rfl⟩
 rw [hw4] at bx0 bx1 bx2 bx3 hB4 hs4
 simp only [hw4]
 clear hw4
 obtain ⟨W0, hW0⟩ : ∃ W0, (w4.alloc (.cells #[.slice A0 l0.length c0] 23)).alloc (.cells #[.int .i64 a2] 3) = W0 := ⟨_, rfl⟩
 have bN : Boxed W0 w4.heap.size 23 (.slice A0 l0.length c0) := by rw [← hW0]; exact (Boxed.new w4 23 (.slice A0 l0.length c0)).alloc _
 have bA : Boxed W0 (w4.heap.size + 1) 3 (.int .i64 a2) := by
  have h := Boxed.new (w4.alloc (.cells #[.slice A0 l0.length c0] 23)) 3 (.int .i64 a2)
  rw [hW0, World.size_alloc] at h
  exact h
 have hs0 : W0.heap.size = w4.heap.size + 2 := by rw [← hW0]; simp
 have hB0 : Below w.heap.size w W0 := by rw [← hW0]; exact (hB4.alloc hB4.size _).alloc (by simp; omega) _
 have by0 : Boxed W0 w.heap.size 34 (.slice A1 l1.length c1) := by rw [← hW0]; exact (bx0.alloc _).alloc _
 have by1 : Boxed W0 (w.heap.size + 1) 3 (.int .i64 a3) := by rw [← hW0]; exact (bx1.alloc _).alloc _
 have by2 : Boxed W0 (w.heap.size + 1 + 1) 3 (.int .i64 0) := by rw [← hW0]; exact (bx2.alloc _).alloc _
 have by3 : Boxed W0 (w.heap.size + 1 + 1 + 1) 4 (.bool false) := by rw [← hW0]; exact (bx3.alloc _).alloc _
 clear bx0 bx1 bx2 bx3
 have hn4 : w4.heap.size = w.heap.size + 1 + 1 + 1 + 1 := by omega
 rw [hn4] at bN bA hs0
 rw [hW0]
 clear hW0
 have HW0 := a_ (And.intro hs0 hs4)
 clear hs0 hs4
 refine wpIn_rangeFunc_ownH (n := 4) rfl (by omega) (gf := 58) (lb := #[.pointer (some ⟨w.heap.size + 1 + 1 + 1 + 1 + 1, 0, none⟩), .pointer (some ⟨w.heap.size + 1 + 1 + 1 + 1, 0, none⟩)]) rfl trivial (enters_of Tryd.func58 (by kernel_rfl) rfl)
  (tree_Below.stopsF (4 - 1) (by omega) A0 c0 l0 a2 HM.out.1 HM.out.2.1 (by have := HM.out.2.2.2; omega) W0 (Kd.C_below HR0.out hB0) (w.heap.size + 1 + 1 + 1 + 1) (w.heap.size + 1 + 1 + 1 + 1 + 1) W0.heap.size (Nat.le_refl _) (by have := HW0.out; omega) (by have := HW0.out; omega) bN.cell bA.cell w hB0 HR0.out hB0.size) belowK_t (belowK_b (Nat.le_refl _)) (Below.refl _ _) (fun _ => rfl)
  (fun pre W => (((Boxed W w.heap.size 34 (.slice A1 l1.length c1) ∧ Boxed W (w.heap.size + 1) 3 (.int .i64 a3)) ∧ Boxed W (w.heap.size + 1 + 1) 3 (.int .i64 0)) ∧ Boxed W (w.heap.size + 1 + 1 + 1) 4 (.bool false)) ∧ Below w.heap.size W0 W ∧ (∀ y ∈ pre.map (·.1), (rd l1 y == a3) = false))
  (fun c pre W => c = .ret ∧ ∃ (q : List (KX l0.length)) (x : KX l0.length), pre = q ++ [x] ∧ (rd l1 x.1 == a3) = true ∧ (∀ y ∈ q.map (·.1), (rd l1 y == a3) = false) ∧ (Boxed W (w.heap.size + 1 + 1) 3 (.int .i64 x.1) ∧ Boxed W (w.heap.size + 1 + 1 + 1) 4 (.bool true)) ∧ Below w.heap.size W0 W)
  (OwnFrom.and (OwnFrom.and (OwnFrom.and (OwnFrom.and (boxed_ownT _ _ _ _) (boxed_ownT _ _ _ _)) (boxed_ownT _ _ _ _)) (boxed_ownT _ _ _ _)) (OwnFrom.and (ownFrom_below hB0.size hB0.size) (ownFrom_pure _ _)))
  (fun c s A B row hs hg hr => by
   obtain ⟨h1, q, x, h2, h3, h4, h5, h6⟩ := hs
   exact ⟨h1, q, x, h2, h3, h4, (OwnFrom.and (boxed_ownT (β := Unit) _ _ _ _) (boxed_ownT _ _ _ _)) () A B row h5 hg hr, ownFrom_below (β := Unit) hB0.size hB0.size () A B row h6 hg hr⟩)
  ⟨⟨⟨⟨by0, by1⟩, by2⟩, by3⟩, Below.refl _ _, by simp⟩
  (fun x a' W => a' = { tmps := #[.slice A0 l0.length c0, .slice A1 l1.length c1, .int .i64 a2, .int .i64 a3, undef, .pointer (some ⟨w.heap.size, 0, none⟩), undef, .pointer (some ⟨w.heap.size + 1, 0, none⟩), .pointer (some ⟨w.heap.size + 1 + 1, 0, none⟩), .pointer (some ⟨w.heap.size + 1 + 1 + 1, 0, none⟩), .int .i64 x.1, .slice A0 l0.length c0, .int .i64 a2, .func (.func 58) #[] #[.pointer (some ⟨w.heap.size + 1 + 1 + 1 + 1 + 1, 0, none⟩), .pointer (some ⟨w.heap.size + 1 + 1 + 1 + 1, 0, none⟩)], .int .i64 x.1, undef, undef, undef, undef, undef, undef, undef], defers := [] })
  (fun x a' _ X Y row hs hg hr => hs)
  ?assign ?body ?done ?stop
 case assign =>
  rintro l pre x W K hI hK
  gi_wp2
  exact hK _ _ (KeepsFrom.refl _ _) (Below.refl _ _) hI rfl
 case body =>
  rintro l pre ⟨xv, hv0, hv1⟩ a' W hl ⟨r, hr⟩ ⟨⟨⟨⟨b0, b1⟩, b2⟩, b3⟩, hb, hq⟩ rfl hlt
  dsimp only
  have HQ := a_ (And.intro hq (And.intro hb (And.intro b0 (And.intro b1 (And.intro b2 b3)))))
  have hx1 : xv < (l1.length : Int) := by have := HM.out.2.2.1; omega
  obtain ⟨ad, e0, g0⟩ := Kd.at_int HR1.out xv hv0 hx1
  cases e0
  have hbw := hB0.trans hb
  have g1 := (hbw.cell (World.block_lt_of_cell? w _ g0)).trans g0
  have c0_ := b0.cell
  have c1_ := b1.cell
  have hx0 := eq_true hv0
  have hlx := eq_true hx1
  clear hq hlt hr hb b0 b1 b2 b3 hbw g0 hx1
  obtain ⟨bv, hbv⟩ : ∃ bv, (rd l1 xv == a3) = bv := ⟨_, rfl⟩
  gi_wp2
  refine wpIn_mono (Q := fun e a w' => e = .normal ∧ (∃ (t15 t16 t17 t18 t19 : Value), a = { tmps := #[.slice A0 l0.length c0, .slice (some ad) l1.length c1, .int .i64 a2, .int .i64 a3, undef, .pointer (some ⟨w.heap.size, 0, none⟩), undef, .pointer (some ⟨w.heap.size + 1, 0, none⟩), .pointer (some ⟨w.heap.size + 1 + 1, 0, none⟩), .pointer (some ⟨w.heap.size + 1 + 1 + 1, 0, none⟩), .int .i64 xv, .slice A0 l0.length c0, .int .i64 a2, .func (.func 58) #[] #[.pointer (some ⟨w.heap.size + 1 + 1 + 1 + 1 + 1, 0, none⟩), .pointer (some ⟨w.heap.size + 1 + 1 + 1 + 1, 0, none⟩)], .int .i64 xv, t15, t16, t17, t18, t19, .bool bv, undef], defers := [] }) ∧ ∃ nq, w' = W.drewN nq) ?reg ?post
  case reg =>
   clear HQ HW0 HM HRR
   gi_region_with_o (fail)
   all_goals exact ⟨rfl, ⟨_, _, _, _, _, rfl⟩, _, rfl⟩
  case post =>
   rintro e a W3 ⟨rfl, ⟨t15, t16, t17, t18, t19, rfl⟩, nq, rfl⟩
   clear c0_ c1_ g1 hx0 hlx
   obtain ⟨hq, hb, b0, b1, b2, b3⟩ := HQ.out
   have b2' : Boxed (W.drewN nq) (w.heap.size + 1 + 1) 3 (.int .i64 0) := b2
   have b3' : Boxed (W.drewN nq) (w.heap.size + 1 + 1 + 1) 4 (.bool false) := b3
   have c2_ := b2'.cell
   have c3_ := b3'.cell
   have f2_ := b2'.frozen
   have f3_ := b3'.frozen
   have HP := a_ (And.intro hq (And.intro hb (And.intro b2' b3')))
   have HX := a_ hbv
   have kq : KeepsFrom W0.heap.size W (W.drewN nq) := ⟨Nat.le_refl _, fun k o _ h _ => h⟩
   have HK := a_ kq
   clear hq hb b2 b3 b2' b3' hbv kq
   cases bv
   · gi_wp2
     refine ⟨HK.out, below_dn (Below.refl _ _) nq, ⟨⟨⟨b0, b1⟩, HP.out.2.2.1⟩, HP.out.2.2.2⟩, below_dn HP.out.2.1 nq, ?_⟩
     intro y hy
     rw [List.map_append, List.mem_append] at hy
     rcases hy with hy | hy
     · exact HP.out.1 y hy
     · rw [List.map_cons, List.map_nil, List.mem_singleton] at hy
       subst hy
       exact HX.out
   · gi_wp2
     clear c2_ c3_ f2_ f3_
     refine ⟨HK.out.trans (((KeepsOthers.setCell _ _ _).trans (KeepsOthers.setCell _ _ _)).from _), rfl, pre, ⟨xv, hv0, hv1⟩, rfl, HX.out, HP.out.1, ⟨?_, ?_⟩, ?_⟩
     · exact (HP.out.2.2.1.set _).other (by omega) _
     · exact (HP.out.2.2.2.other (by omega) _).set _
     · exact (((below_dn HP.out.2.1 nq).setCell (p := ⟨w.heap.size + 1 + 1, 0, none⟩) (by show w.heap.size ≤ w.heap.size + 1 + 1; omega) _).setCell (p := ⟨w.heap.size + 1 + 1 + 1, 0, none⟩) (by show w.heap.size ≤ w.heap.size + 1 + 1 + 1; omega) _)
 case done =>
  rintro D ys W hD hS ⟨⟨⟨⟨b0, b1⟩, b2⟩, b3⟩, hb, hq⟩ hK
  have HQ := a_ (And.intro hq (And.intro hb hS))
  clear hq hS
  have c2_ := b2.cell
  have c3_ := b3.cell
  have f2_ := b2.frozen
  have f3_ := b3.frozen
  gi_wp2
  clear c2_ c3_ f2_ f3_
  have hl : fstK l0 l1 a2 a3 = none := find_none_all _ _ (fun y hy => HQ.out.1 y (by rw [HQ.out.2.2]; exact hy))
  have hrr := HRR.out
  rw [hl] at hrr
  obtain ⟨rfl, rfl⟩ := Prod.mk.inj hrr
  exact first_ends (((KeepsOthers.setCell _ _ _).trans (KeepsOthers.setCell _ _ _)).same D _ hK rfl) ((b2.set _).other (by omega) _) ((b3.other (by omega) _).set _)
   (((hB0.trans HQ.out.2.1).setCell (p := ⟨w.heap.size + 1 + 1, 0, none⟩) (by show w.heap.size ≤ w.heap.size + 1 + 1; omega) _).setCell (p := ⟨w.heap.size + 1 + 1 + 1, 0, none⟩) (by show w.heap.size ≤ w.heap.size + 1 + 1 + 1; omega) _) (by have := hB0.size; omega) rfl rfl
 case stop =>
  rintro D c pre W hD hSp ⟨rfl, q, x, h1, h2, h3, ⟨b2, b3⟩, hb⟩ hK
  have HQ := a_ (And.intro hSp (And.intro h1 (And.intro h2 (And.intro h3 hb))))
  clear hSp h1 h2 h3
  have c2_ := b2.cell
  have c3_ := b3.cell
  gi_wp2
  clear c2_ c3_
  obtain ⟨hSp, h1, h2, h3, hb⟩ := HQ.out
  have hl : fstK l0 l1 a2 a3 = some x.1 := find_pre _ x.1 h2 (q.map (·.1)) _ (by rw [h1, List.map_append] at hSp; exact hSp) h3
  have hrr := HRR.out
  rw [hl] at hrr
  obtain ⟨rfl, rfl⟩ := Prod.mk.inj hrr
  exact first_ends hK b2 b3 (hB0.trans hb) (by have := hB0.size; omega) rfl rfl
end
theorem top_first.calls (A0 : Option Addr) (c0 : Nat) (l0 : List (S33)) (A1 : Option Addr) (c1 : Nat) (l1 : List Int) (a2 : Int) (a3 : Int) (r1 : Int) (r2 : Bool) (w : World) (hr0 : Kd.C k33 w A0 l0.length l0) (hc0 : l0.length ≤ c0) (hr1 : Kd.C (Kd.int .i64) w A1 l1.length l1) (hc1 : l1.length ≤ c1) (h : top_first.f l0 l1 a2 a3 = some (r1, r2)) :
 Calls Tryd.prog 49 #[.slice A0 l0.length c0, .slice A1 l1.length c1, .int .i64 a2, .int .i64 a3] w fun e w' => e = .returned (.tuple #[.int .i64 r1, .bool r2]) ∧ Below w.heap.size w w' := by
 unfold top_first.f at h
 by_cases c : 0 ≤ a2 ∧ a2 < (l0.length : Int) ∧ l0.length ≤ l1.length ∧ l0.length ≤ 512
 case neg =>
  rw [if_neg c] at h; cases h

 rw [if_pos c] at h
 refine (callsIn_wide (n := 4)).1 (top_first.inW A0 c0 l0 A1 c1 l1 a2 a3 r1 r2 w hr0 hr1 c.1 c.2.1 c.2.2.1 c.2.2.2 ?_)
 cases hf : fstK l0 l1 a2 a3 with
 | none => rw [hf] at h; exact Option.some.inj h
 | some k => rw [hf] at h; exact Option.some.inj h
end Go.Proofs.YtgokcaccamfgfaaDoor.G
end
section
-- Laid by the session's own driver gp.py over the kit's printer. Not trusted: Lean checks it.
namespace Go.Proofs.YtgokcaccamfgfaaDoor.G
open Go.RowKit Go.Proofs.YtgokcaccamfgfaaDoorW.PrintWords Go.Proofs.YtgokcaccamfgfaaDoorW.PrintLast Go.Proofs.YtgokcaccamfgfaaDoorW.PrintMore
set_option maxHeartbeats 8000000
set_option maxRecDepth 100000
attribute [local go_sem] max2_int min2_int max_two min_two max_three min_three max_four min_four   -- for this text's walks alone
set_option linter.unusedVariables false
set_option linter.unusedSimpArgs false

def bugS (ns : List S33) (ms : List Int) (a : Int) : Int × Int := if ((kidsTo ns a ns.length).all fun k => rd ms k == 1) = true then (1, a) else (3, 0)
def top_Bug.f (l0 : List S33) (l1 : List Int) (a2 : Int) : Option (Int × Int) :=
 if 0 ≤ a2 ∧ a2 < (l0.length : Int) ∧ l0.length ≤ l1.length ∧ l0.length ≤ 512 then some (bugS l0 l1 a2) else none
/-- a block of two cells -/
def Boxed2 (W : World) (B : Nat) (t : TypeId) (u v : Value) : Prop := W.heap[B]? = some (.cells #[u, v] t (0, 0))
theorem Boxed2.lt {W : World} {B : Nat} {t : TypeId} {u v : Value} (h : Boxed2 W B t u v) : B < W.heap.size := (Array.getElem?_eq_some_iff.1 h).1
theorem Boxed2.c0 {W : World} {B : Nat} {t : TypeId} {u v : Value} (h : Boxed2 W B t u v) : W.cell? ⟨B, 0, none⟩ = some u := by simp [World.cell?, show W.heap[B]? = _ from h]
theorem Boxed2.c1 {W : World} {B : Nat} {t : TypeId} {u v : Value} (h : Boxed2 W B t u v) : W.cell? ⟨B, 1, none⟩ = some v := by simp [World.cell?, show W.heap[B]? = _ from h]
theorem Boxed2.f0 {W : World} {B : Nat} {t : TypeId} {u v : Value} (h : Boxed2 W B t u v) : W.frozen? ⟨B, 0, none⟩ = false := by simp [World.frozen?, show W.heap[B]? = _ from h]
theorem Boxed2.f1 {W : World} {B : Nat} {t : TypeId} {u v : Value} (h : Boxed2 W B t u v) : W.frozen? ⟨B, 1, none⟩ = false := by simp [World.frozen?, show W.heap[B]? = _ from h]
theorem Boxed2.kept {W W' : World} {row : Option Nat} {B : Nat} {t : TypeId} {u v : Value} (h : Boxed2 W B t u v) (hg : W.grownBy W' row) (hne : some B ≠ row) : Boxed2 W' B t u v := (hg.block B h.lt hne).trans h
theorem Boxed2.new (W : World) (t : TypeId) (u v : Value) : Boxed2 (W.alloc (.cells #[u, v] t)) W.heap.size t u v := World.alloc_heap_new W _
theorem Boxed2.alloc {W : World} {B : Nat} {t : TypeId} {u v : Value} (h : Boxed2 W B t u v) (o : Obj) : Boxed2 (W.alloc o) B t u v := h.kept (World.grownBy_alloc W o none) (by simp)
theorem Boxed2.set0 {W : World} {B : Nat} {t : TypeId} {u v : Value} (h : Boxed2 W B t u v) (a : Value) : Boxed2 (W.setCell ⟨B, 0, none⟩ a) B t a v := by
 obtain ⟨hlt, hk⟩ := Array.getElem?_eq_some_iff.1 h
 show (W.heap.modify B _)[B]? = _
 rw [Array.getElem?_eq_getElem (by rw [Array.size_modify]; exact hlt), Array.getElem_modify_self, hk]
 rfl
theorem Boxed2.set1 {W : World} {B : Nat} {t : TypeId} {u v : Value} (h : Boxed2 W B t u v) (a : Value) : Boxed2 (W.setCell ⟨B, 1, none⟩ a) B t u a := by
 obtain ⟨hlt, hk⟩ := Array.getElem?_eq_some_iff.1 h
 show (W.heap.modify B _)[B]? = _
 rw [Array.getElem?_eq_getElem (by rw [Array.size_modify]; exact hlt), Array.getElem_modify_self, hk]
 rfl
theorem Boxed2.put {W : World} {B : Nat} {t : TypeId} {u v : Value} (h : Boxed2 W B t u v) (a b : Value) : Boxed2 ((W.setCell ⟨B, 0, none⟩ a).setCell ⟨B, 1, none⟩ b) B t a b := (h.set0 a).set1 b
theorem bug_ends {W w : World} {D : Nat} {tmps : Array Value} {i j : Int} (hK : W.heap[D]? = some (.deferred (some []))) (b : Boxed2 W (w.heap.size + 1) 39 (.int .i64 i) (.int .i64 j))
 (hB : Below w.heap.size w W) (hD : w.heap.size ≤ D) (h6 : tmps[6]? = some (.pointer (some ⟨w.heap.size + 1, 0, none⟩))) :
 bodyPostM Fence.wide 4 Tryd.prog Tryd.f48 (fun e w' => e = .returned (.agg #[.int .i64 i, .int .i64 j]) ∧ Below w.heap.size w w') .ret { tmps := tmps, defers := [{ target := .collected D, args := #[] }] } W := by
 have e0 := Go.cell_kept b.c0 (grownBy_putObj' _ D (.deferred none)) (fun r e => by cases e; exact ⟨_, hK, rfl⟩)
 have e1 := Go.cell_kept b.c1 (grownBy_putObj' _ D (.deferred none)) (fun r e => by cases e; exact ⟨_, hK, rfl⟩)
 have hu := Tryd.underlying39
 refine ⟨by simp, .inl ⟨_, _, rfl, run_takeDeferred hK, ?_⟩⟩
 refine ⟨.agg #[.int .i64 i, .int .i64 j], ?_, rfl, hB.trans (belowK_b (w := w) (Nat.le_refl _) W D _ _ hD hK rfl rfl)⟩
 simp [results, Tryd.f48, go_sem, e0, e1, h6]
theorem boxed2_ownT {β : Type} (B0 B : Nat) (t : TypeId) (u v : Value) : OwnFrom B0 (fun (_ : β) W => Boxed2 W B t u v) :=
 Own.from (fun s X Y row hs hg hrow => hs.kept hg (fun e' => by obtain ⟨o, ho, hc⟩ := hrow B e'.symm; rw [show X.heap[B]? = _ from hs] at ho; cases ho; cases hc)) B0
section
attribute [local go_sem] Oper.semAt_some
theorem top_Bug.inW (A0 : Option Addr) (c0 : Nat) (l0 : List (S33)) (A1 : Option Addr) (c1 : Nat) (l1 : List Int) (a2 r1 : Int) (r2 : Int) (w : World) (hr0 : Kd.C k33 w A0 l0.length l0) (hr1 : Kd.C (Kd.int .i64) w A1 l1.length l1) (h0 : 0 ≤ a2) (h1 : a2 < (l0.length : Int)) (hl : l0.length ≤ l1.length) (h512 : l0.length ≤ 512) (hr : bugS l0 l1 a2 = (r1, r2)) :
 CallsIn Fence.wide 4 Tryd.prog 48 #[.slice A0 l0.length c0, .slice A1 l1.length c1, .int .i64 a2] w fun e w' => e = .returned (.agg #[.int .i64 r1, .int .i64 r2]) ∧ Below w.heap.size w w' := by
 have HR0 := a_ hr0
 have HR1 := a_ hr1
 have HRR := a_ hr
 have HM := a_ (And.intro h0 (And.intro h1 (And.intro hl h512)))
 have hmix : Tryd.prog.follows .mixedOrders = true := by kernel_rfl
 have hu := Tryd.underlying39
 clear hr0 hr1 hr h0 h1 hl h512
 refine callsIn_of_wp_marks Tryd.func48 rfl trivial ?_ rfl
 simp only [Tryd.ntmps48, List.size_toArray, List.length_cons, List.length_nil, Nat.reduceAdd, Nat.reduceSub, Array.replicate_succ, Array.replicate_zero, List.push_toArray, List.append_toArray, List.nil_append, List.cons_append]
 have ff1 : Fence.wide.fn 54 := trivial
 gi_wp2_with (first
  | (gi_at_call 54; refine (tree_Below.in_ _ (by omega) _ _ _ _ _).mono ?_; rintro e w7 ⟨rfl, rfl⟩))
 have bx0 := ((Boxed.new w 34 (.slice A1 l1.length c1)).alloc (.cells #[.int .i64 0, .int .i64 0] 39))
 have bx1 := Boxed2.new (w.alloc (.cells #[.slice A1 l1.length c1] 34)) 39 (.int .i64 0) (.int .i64 0)
 obtain ⟨w4, hw4⟩ : ∃ w4, (w.alloc (.cells #[.slice A1 l1.length c1] 34)).alloc (.cells #[.int .i64 0, .int .i64 0] 39) = w4 := ⟨_, rfl⟩
 have hB4 : Below w.heap.size w w4 := by rw [← hw4]; exact ((Below.refl _ w).alloc (Nat.le_refl _) _).alloc (by simp) _
 have hn4 : w4.heap.size = w.heap.size + 1 + 1 := by rw [← hw4]; simp
 rw [hw4] at bx0 bx1
 simp only [World.size_alloc] at bx1
 simp only [hw4]
 clear hw4
 obtain ⟨W0, hW0⟩ : ∃ W0, (w4.alloc (.cells #[.slice A0 l0.length c0] 23)).alloc (.cells #[.int .i64 a2] 3) = W0 := ⟨_, rfl⟩
 have bN : Boxed W0 w4.heap.size 23 (.slice A0 l0.length c0) := by rw [← hW0]; exact (Boxed.new w4 23 (.slice A0 l0.length c0)).alloc _
 have bA : Boxed W0 (w4.heap.size + 1) 3 (.int .i64 a2) := by
  have h := Boxed.new (w4.alloc (.cells #[.slice A0 l0.length c0] 23)) 3 (.int .i64 a2)
  rw [hW0, World.size_alloc] at h
  exact h
 have hs0 : W0.heap.size = w4.heap.size + 2 := by rw [← hW0]; simp
 have hB0 : Below w.heap.size w W0 := by rw [← hW0]; exact (hB4.alloc hB4.size _).alloc (by simp; omega) _
 have by0 : Boxed W0 w.heap.size 34 (.slice A1 l1.length c1) := by rw [← hW0]; exact (bx0.alloc _).alloc _
 have by1 : Boxed2 W0 (w.heap.size + 1) 39 (.int .i64 0) (.int .i64 0) := by rw [← hW0]; exact (bx1.alloc _).alloc _
 clear bx0 bx1
 rw [hn4] at bN bA hs0
 rw [hW0]
 clear hW0
 have HW0 := a_ hs0
 clear hs0
 refine wpIn_rangeFunc_ownH (n := 4) rfl (by omega) (gf := 58) (lb := #[.pointer (some ⟨w.heap.size + 1 + 1 + 1, 0, none⟩), .pointer (some ⟨w.heap.size + 1 + 1, 0, none⟩)]) rfl trivial (enters_of Tryd.func58 (by kernel_rfl) rfl)
  (tree_Below.stopsF (4 - 1) (by omega) A0 c0 l0 a2 HM.out.1 HM.out.2.1 (by have := HM.out.2.2.2; omega) W0 (Kd.C_below HR0.out hB0) (w.heap.size + 1 + 1) (w.heap.size + 1 + 1 + 1) W0.heap.size (Nat.le_refl _) (by have := HW0.out; omega) (by have := HW0.out; omega) bN.cell bA.cell w hB0 HR0.out hB0.size) belowK_t (belowK_b (Nat.le_refl _)) (Below.refl _ _) (fun _ => rfl)
  (fun pre W => (Boxed W w.heap.size 34 (.slice A1 l1.length c1) ∧ Boxed2 W (w.heap.size + 1) 39 (.int .i64 0) (.int .i64 0)) ∧ Below w.heap.size W0 W ∧ (∀ y ∈ pre.map (·.1), (rd l1 y == 1) = true))
  (fun c pre W => c = .ret ∧ ∃ (q : List (KX l0.length)) (x : KX l0.length), pre = q ++ [x] ∧ (rd l1 x.1 == 1) = false ∧ Boxed2 W (w.heap.size + 1) 39 (.int .i64 3) (.int .i64 0) ∧ Below w.heap.size W0 W)
  (OwnFrom.and (OwnFrom.and (boxed_ownT _ _ _ _) (boxed2_ownT _ _ _ _ _)) (OwnFrom.and (ownFrom_below hB0.size hB0.size) (ownFrom_pure _ _)))
  (fun c s A B row hs hg hr => by
   obtain ⟨h1, q, x, h2, h3, h5, h6⟩ := hs
   exact ⟨h1, q, x, h2, h3, (boxed2_ownT (β := Unit) _ _ _ _ _) () A B row h5 hg hr, ownFrom_below (β := Unit) hB0.size hB0.size () A B row h6 hg hr⟩)
  ⟨⟨by0, by1⟩, Below.refl _ _, by simp⟩
  (fun x a' W => a' = { tmps := #[.slice A0 l0.length c0, .slice A1 l1.length c1, .int .i64 a2, undef, .pointer (some ⟨w.heap.size, 0, none⟩), undef, .pointer (some ⟨w.heap.size + 1, 0, none⟩), .int .i64 x.1, .slice A0 l0.length c0, .int .i64 a2, .func (.func 58) #[] #[.pointer (some ⟨w.heap.size + 1 + 1 + 1, 0, none⟩), .pointer (some ⟨w.heap.size + 1 + 1, 0, none⟩)], .int .i64 x.1, undef, undef, undef, undef, undef, undef, undef, undef], defers := [] })
  (fun x a' _ X Y row hs hg hr => hs)
  ?assign ?body ?done ?stop
 case assign =>
  rintro l pre x W K hI hK
  gi_wp2
  exact hK _ _ (KeepsFrom.refl _ _) (Below.refl _ _) hI rfl
 case body =>
  rintro l pre ⟨xv, hv0, hv1⟩ a' W hl ⟨r, hr⟩ ⟨⟨b0, b1⟩, hb, hq⟩ rfl hlt
  dsimp only
  have HQ := a_ (And.intro hq (And.intro hb (And.intro b0 b1)))
  have hx1 : xv < (l1.length : Int) := by have := HM.out.2.2.1; omega
  obtain ⟨ad, e0, g0⟩ := Kd.at_int HR1.out xv hv0 hx1
  cases e0
  have hbw := hB0.trans hb
  have g1 := (hbw.cell (World.block_lt_of_cell? w _ g0)).trans g0
  have c0_ := b0.cell
  have c1_ := b1.c0
  have c2_ := b1.c1
  have f1_ := b1.f0
  have f2_ := b1.f1
  have hx0 := eq_true hv0
  have hlx := eq_true hx1
  clear hq hlt hr hb b0 b1 hbw g0 hx1
  cases hbv : (rd l1 xv == 1) with
  | true =>
   have hne : (rd l1 xv != 1) = false := by rw [bne, hbv]; rfl
   have HX := a_ hbv
   clear hbv
   gi_wp2
   refine ⟨KeepsFrom.refl _ _, Below.refl _ _, HQ.out.2.2, HQ.out.2.1, ?_⟩
   intro y hy
   rw [List.map_append, List.mem_append] at hy
   rcases hy with hy | hy
   · exact HQ.out.1 y hy
   · rw [List.map_cons, List.map_nil, List.mem_singleton] at hy
     subst hy
     exact HX.out
  | false =>
   have hne : (rd l1 xv != 1) = true := by rw [bne, hbv]; rfl
   have HX := a_ hbv
   clear hbv
   gi_wp2
   clear c1_ c2_ f1_ f2_
   exact ⟨((KeepsOthers.setCell _ _ _).trans (KeepsOthers.setCell _ _ _)).from _, rfl, pre, ⟨xv, hv0, hv1⟩, rfl, HX.out, HQ.out.2.2.2.put _ _, (HQ.out.2.1.setCell (p := ⟨w.heap.size + 1, 0, none⟩) (by show w.heap.size ≤ w.heap.size + 1; omega) _).setCell (p := ⟨w.heap.size + 1, 1, none⟩) (by show w.heap.size ≤ w.heap.size + 1; omega) _⟩
 case done =>
  rintro D ys W hD hS ⟨⟨b0, b1⟩, hb, hq⟩ hK
  have HQ := a_ (And.intro hq (And.intro hb hS))
  clear hq hS
  have c1_ := b1.c0
  have c2_ := b1.c1
  have f1_ := b1.f0
  have f2_ := b1.f1
  gi_wp2
  clear c1_ c2_ f1_ f2_
  have hl : bugS l0 l1 a2 = (1, a2) := by
   unfold bugS
   rw [if_pos (List.all_eq_true.2 fun y hy => HQ.out.1 y (by rw [HQ.out.2.2]; exact hy))]
  have hrr := HRR.out
  rw [hl] at hrr
  obtain ⟨rfl, rfl⟩ := Prod.mk.inj hrr
  exact bug_ends (((KeepsOthers.setCell _ _ _).trans (KeepsOthers.setCell _ _ _)).same D _ hK rfl) (b1.put _ _)
   (((hB0.trans HQ.out.2.1).setCell (p := ⟨w.heap.size + 1, 0, none⟩) (by show w.heap.size ≤ w.heap.size + 1; omega) _).setCell (p := ⟨w.heap.size + 1, 1, none⟩) (by show w.heap.size ≤ w.heap.size + 1; omega) _) (by have := hB0.size; omega) rfl
 case stop =>
  rintro D c pre W hD hSp ⟨rfl, q, x, h1, h2, b, hb⟩ hK
  have HQ := a_ (And.intro hSp (And.intro h1 (And.intro h2 hb)))
  clear hSp h1 h2
  gi_wp2
  obtain ⟨hSp, h1, h2, hb⟩ := HQ.out
  have hl : bugS l0 l1 a2 = (3, 0) := by
   unfold bugS
   rw [if_neg]
   intro hall
   have hm : x.1 ∈ kidsTo l0 a2 l0.length := hSp.subset (by rw [h1]; simp)
   have := List.all_eq_true.1 hall x.1 hm
   rw [h2] at this
   exact Bool.false_ne_true this
  have hrr := HRR.out
  rw [hl] at hrr
  obtain ⟨rfl, rfl⟩ := Prod.mk.inj hrr
  exact bug_ends hK b (hB0.trans hb) (by have := hB0.size; omega) rfl
end
theorem top_Bug.calls (A0 : Option Addr) (c0 : Nat) (l0 : List (S33)) (A1 : Option Addr) (c1 : Nat) (l1 : List Int) (a2 : Int) (r1 : Int) (r2 : Int) (w : World) (hr0 : Kd.C k33 w A0 l0.length l0) (hc0 : l0.length ≤ c0) (hr1 : Kd.C (Kd.int .i64) w A1 l1.length l1) (hc1 : l1.length ≤ c1) (h : top_Bug.f l0 l1 a2 = some (r1, r2)) :
 Calls Tryd.prog 48 #[.slice A0 l0.length c0, .slice A1 l1.length c1, .int .i64 a2] w fun e w' => e = .returned (.agg #[.int .i64 r1, .int .i64 r2]) ∧ Below w.heap.size w w' := by
 unfold top_Bug.f at h
 by_cases c : 0 ≤ a2 ∧ a2 < (l0.length : Int) ∧ l0.length ≤ l1.length ∧ l0.length ≤ 512
 case neg =>
  rw [if_neg c] at h; cases h

 rw [if_pos c] at h
 exact (callsIn_wide (n := 4)).1 (top_Bug.inW A0 c0 l0 A1 c1 l1 a2 r1 r2 w hr0 hr1 c.1 c.2.1 c.2.2.1 c.2.2.2 (Option.some.inj h))
end Go.Proofs.YtgokcaccamfgfaaDoor.G
end
section
-- Laid by the session's own driver gp.py over the kit's printer. Not trusted: Lean checks it.
namespace Go.Proofs.YtgokcaccamfgfaaDoor.G
open Go.RowKit Go.Proofs.YtgokcaccamfgfaaDoorW.PrintWords Go.Proofs.YtgokcaccamfgfaaDoorW.PrintLast Go.Proofs.YtgokcaccamfgfaaDoorW.PrintMore
set_option maxHeartbeats 8000000
set_option maxRecDepth 100000
attribute [local go_sem] max2_int min2_int max_two min_two max_three min_three max_four min_four   -- for this text's walks alone
set_option linter.unusedVariables false
set_option linter.unusedSimpArgs false

def top_Ask.l0 : Nat → List (S33) → List Int → Int → Int → Bool → Option (Int × Int)
 | 0, _, _, _, _, _ => none
 | k + 1, x0, x1, x5, x6, x7 => if x7 = true then ((top_first.f x0 x1 x6 2).bind fun bt162 => (top_Ask.l0 k x0 x1 x6 bt162.1 bt162.2)) else ((top_first.f x0 x1 x5 0).bind fun bt164 => (if bt164.2 = true then (some (0, bt164.1)) else ((top_Bug.f x0 x1 x5).bind fun bt166 => (some (bt166.1, bt166.2)))))
def top_Ask.f (k : Nat) (l0 : List (S33)) (l1 : List Int) : Option (Int × Int) := if 0 < (l1.length : Int) then (if (rd l1 0) = 0 then (some (0, 0)) else (if (rd l1 0) = 1 then (some (2, 0)) else (if (rd l1 0) = 3 then (some (3, 0)) else ((top_first.f l0 l1 0 2).bind fun bt160 => (top_Ask.l0 k l0 l1 0 bt160.1 bt160.2))))) else (none)
theorem top_Ask.mono_l : ∀ k, (∀ y0 y1 y2 y3 y4, LeO (top_Ask.l0 k y0 y1 y2 y3 y4) (top_Ask.l0 (k + 1) y0 y1 y2 y3 y4))
 | 0 => fun _ _ _ _ _ r h => by simp [top_Ask.l0] at h
 | k + 1 => by
  have ih0 := top_Ask.mono_l k
  · intro y0 y1 y2 y3 y4
    unfold top_Ask.l0
    repeat' first
    | (with_reducible exact ih0 _ _ _ _ _)
    | (with_reducible exact LeO.refl _)
    | (with_reducible exact LeO.none _)
    | (with_reducible refine LeO.ite ?_ ?_)
    | (with_reducible refine LeO.bind ?_ (fun _ => ?_))
    | exact ih0 _ _ _ _ _
    | exact LeO.none _
    | refine LeO.ite ?_ ?_
    | refine LeO.bind ?_ (fun _ => ?_)
theorem top_Ask.mono : ∀ a0 a1 k, LeO (top_Ask.f k a0 a1) (top_Ask.f (k + 1) a0 a1) := by
 intro a0 a1 k
 have ih0 := top_Ask.mono_l k
 unfold top_Ask.f
 repeat' first
  | (with_reducible exact ih0 _ _ _ _ _)
  | (with_reducible exact LeO.refl _)
  | (with_reducible exact LeO.none _)
  | (with_reducible refine LeO.ite ?_ ?_)
  | (with_reducible refine LeO.bind ?_ (fun _ => ?_))
  | exact ih0 _ _ _ _ _
  | exact LeO.none _
  | refine LeO.ite ?_ ?_
  | refine LeO.bind ?_ (fun _ => ?_)
theorem top_Ask.calls (k : Nat) (A0 : Option Addr) (c0 : Nat) (l0 : List (S33)) (A1 : Option Addr) (c1 : Nat) (l1 : List Int) (r1 : Int) (r2 : Int) (w : World) (hr0 : Kd.C k33 w A0 l0.length l0) (hc0 : l0.length ≤ c0) (hr1 : Kd.C (Kd.int .i64) w A1 l1.length l1) (hc1 : l1.length ≤ c1) (h : top_Ask.f k l0 l1 = some (r1, r2)) :
 Calls Tryd.prog 29 #[.slice A0 l0.length c0, .slice A1 l1.length c1] w fun e w' => e = .returned (.agg #[.int .i64 r1, .int .i64 r2]) ∧ Below w.heap.size w w' := by
 have hu39 := Tryd.underlying39
 have HR0 := a_ hr0
 have HC0 := a_ hc0
 clear hr0 hc0
 have HR1 := a_ hr1
 have HC1 := a_ hc1
 clear hr1 hc1
 have HB := a_ (Below.refl w.heap.size w)
 have H := h; unfold top_Ask.f at H
 clear h
 replace H := ifI_ H; obtain ⟨c3, H⟩ := H
 have c3b0 : decide (0 < (l1.length : Int)) = true := decide_eq_true c3
 have c3b1 : decide (0 < l1.length) = true := decide_eq_true (by omega)
 clear c3
 by_cases c4 : (rd l1 0) = 0
 case pos =>
  rw [if_pos c4] at H
  have c4b0 : ((rd l1 0) == 0) = true := beq_iff_eq.mpr c4
  have c4b1 : ((rd l1 0) != 0) = false := bne_eq_false_iff_eq.mpr c4
  clear c4
  simp only [Option.some.injEq, Prod.mk.injEq] at H
  obtain ⟨rfl, rfl⟩ := H
  go_enter Tryd.func29, Tryd.ntmps29
  go_wp2_with (first | ((with_reducible refine gate_dst (N := 4) rfl ?_); refine boxE_ 4 #[.int .i64 0, .int .i64 0] 39 ?_; intro gb158 hg w5 hbox hb; have BK158 := a_ (hbox); have GW158 := a_ ((gE_ hg : w.heap.size ≤ gb158)); have GE158 := a_ ((gE_ hg : w.heap.size ≤ gb158)); replace HB := a_ (below_step hB_ hb); clear hb hbox hg; have p159 : 0 ≤ (0 : Int) := (by omega); have q159 : 0 < (l1.length : Int) := of_decide_eq_true hA_; obtain ⟨ad159, e159, hx159_0⟩ := Kd.at_int HR1.out 0 p159 q159; cases e159; have qi159 : (0 < l1.length) = True := eq_true (by omega); (try rw [show ((0 : Int)).toNat = 0 from rfl] at hx159_0); (try rw [Addr.add_zero'] at hx159_0); replace hx159_0 := cl_ HB.out hx159_0; replace p159 := eq_true p159; replace q159 := eq_true q159; obtain ⟨hcz6_0, hcz6_1, hfz6_0, hfz6_1⟩ := bx2_ BK158.out) | ((with_reducible refine gate_store (t := 39) (p := 4) rfl ?_); refine store_event (t := 39) (p := 4) (v := ?vo_w7) (w1 := ((w5.setCell ⟨gb158, 0, none⟩ (.int .i64 0)).setCell ⟨gb158, 1, none⟩ (.int .i64 0))) ?hg ?ho ?hn ?hr ?_; (case ho => rfl); (case hg => rfl); (case hn => rfl); (case hr => first | (go_simp; done) | (go_simp; rfl)); intro w7 hw; replace BK158 : Aside0 (w7.heap[gb158]? = some (.cells #[.int .i64 0, .int .i64 0] 39 (0, 0))) := ⟨(by rw [hw]; exact (bP_ (bP_ (hK_ BK158.out))))⟩; replace HB : Aside0 (Below w.heap.size w w7) := ⟨(by rw [hw]; exact hC_)⟩; clear hw))
  refine bodyPost_ret (results_cell_row rfl _ _ gb158 39 #[.int .i64 0, .int .i64 0] (0, 0) _ rfl (hK_ BK158.out) Tryd.underlying39 rfl (by kernel_rfl)) rfl ?_
  exact ⟨hV_, hC_⟩
 rw [if_neg c4] at H
 have c4b0 : ((rd l1 0) == 0) = false := beq_eq_false_iff_ne.mpr c4
 have c4b1 : ((rd l1 0) != 0) = true := bne_iff_ne.mpr c4
 by_cases c8 : (rd l1 0) = 1
 case pos =>
  rw [if_pos c8] at H
  have c8b0 : ((rd l1 0) == 1) = true := beq_iff_eq.mpr c8
  have c8b1 : ((rd l1 0) != 1) = false := bne_eq_false_iff_eq.mpr c8
  clear c8
  simp only [Option.some.injEq, Prod.mk.injEq] at H
  obtain ⟨rfl, rfl⟩ := H
  go_enter Tryd.func29, Tryd.ntmps29
  go_wp2_with (first | ((with_reducible refine gate_dst (N := 4) rfl ?_); refine boxE_ 4 #[.int .i64 0, .int .i64 0] 39 ?_; intro gb158 hg w9 hbox hb; have BK158 := a_ (hbox); have GW158 := a_ ((gE_ hg : w.heap.size ≤ gb158)); have GE158 := a_ ((gE_ hg : w.heap.size ≤ gb158)); replace HB := a_ (below_step hB_ hb); clear hb hbox hg; have p159 : 0 ≤ (0 : Int) := (by omega); have q159 : 0 < (l1.length : Int) := of_decide_eq_true hA_; obtain ⟨ad159, e159, hx159_0⟩ := Kd.at_int HR1.out 0 p159 q159; cases e159; have qi159 : (0 < l1.length) = True := eq_true (by omega); (try rw [show ((0 : Int)).toNat = 0 from rfl] at hx159_0); (try rw [Addr.add_zero'] at hx159_0); replace hx159_0 := cl_ HB.out hx159_0; replace p159 := eq_true p159; replace q159 := eq_true q159; obtain ⟨hcz10_0, hcz10_1, hfz10_0, hfz10_1⟩ := bx2_ BK158.out) | ((with_reducible refine gate_store (t := 39) (p := 4) rfl ?_); refine store_event (t := 39) (p := 4) (v := ?vo_w11) (w1 := ((w9.setCell ⟨gb158, 0, none⟩ (.int .i64 2)).setCell ⟨gb158, 1, none⟩ (.int .i64 0))) ?hg ?ho ?hn ?hr ?_; (case ho => rfl); (case hg => rfl); (case hn => rfl); (case hr => first | (go_simp; done) | (go_simp; rfl)); intro w11 hw; replace BK158 : Aside0 (w11.heap[gb158]? = some (.cells #[.int .i64 2, .int .i64 0] 39 (0, 0))) := ⟨(by rw [hw]; exact (bP_ (bP_ (hK_ BK158.out))))⟩; replace HB : Aside0 (Below w.heap.size w w11) := ⟨(by rw [hw]; exact hC_)⟩; clear hw))
  refine bodyPost_ret (results_cell_row rfl _ _ gb158 39 #[.int .i64 2, .int .i64 0] (0, 0) _ rfl (hK_ BK158.out) Tryd.underlying39 rfl (by kernel_rfl)) rfl ?_
  exact ⟨hV_, hC_⟩
 rw [if_neg c8] at H
 have c8b0 : ((rd l1 0) == 1) = false := beq_eq_false_iff_ne.mpr c8
 have c8b1 : ((rd l1 0) != 1) = true := bne_iff_ne.mpr c8
 by_cases c12 : (rd l1 0) = 3
 case pos =>
  rw [if_pos c12] at H
  have c12b0 : ((rd l1 0) == 3) = true := beq_iff_eq.mpr c12
  have c12b1 : ((rd l1 0) != 3) = false := bne_eq_false_iff_eq.mpr c12
  clear c12
  simp only [Option.some.injEq, Prod.mk.injEq] at H
  obtain ⟨rfl, rfl⟩ := H
  go_enter Tryd.func29, Tryd.ntmps29
  go_wp2_with (first | ((with_reducible refine gate_dst (N := 4) rfl ?_); refine boxE_ 4 #[.int .i64 0, .int .i64 0] 39 ?_; intro gb158 hg w13 hbox hb; have BK158 := a_ (hbox); have GW158 := a_ ((gE_ hg : w.heap.size ≤ gb158)); have GE158 := a_ ((gE_ hg : w.heap.size ≤ gb158)); replace HB := a_ (below_step hB_ hb); clear hb hbox hg; have p159 : 0 ≤ (0 : Int) := (by omega); have q159 : 0 < (l1.length : Int) := of_decide_eq_true hA_; obtain ⟨ad159, e159, hx159_0⟩ := Kd.at_int HR1.out 0 p159 q159; cases e159; have qi159 : (0 < l1.length) = True := eq_true (by omega); (try rw [show ((0 : Int)).toNat = 0 from rfl] at hx159_0); (try rw [Addr.add_zero'] at hx159_0); replace hx159_0 := cl_ HB.out hx159_0; replace p159 := eq_true p159; replace q159 := eq_true q159; obtain ⟨hcz14_0, hcz14_1, hfz14_0, hfz14_1⟩ := bx2_ BK158.out) | ((with_reducible refine gate_store (t := 39) (p := 4) rfl ?_); refine store_event (t := 39) (p := 4) (v := ?vo_w15) (w1 := ((w13.setCell ⟨gb158, 0, none⟩ (.int .i64 3)).setCell ⟨gb158, 1, none⟩ (.int .i64 0))) ?hg ?ho ?hn ?hr ?_; (case ho => rfl); (case hg => rfl); (case hn => rfl); (case hr => first | (go_simp; done) | (go_simp; rfl)); intro w15 hw; replace BK158 : Aside0 (w15.heap[gb158]? = some (.cells #[.int .i64 3, .int .i64 0] 39 (0, 0))) := ⟨(by rw [hw]; exact (bP_ (bP_ (hK_ BK158.out))))⟩; replace HB : Aside0 (Below w.heap.size w w15) := ⟨(by rw [hw]; exact hC_)⟩; clear hw))
  refine bodyPost_ret (results_cell_row rfl _ _ gb158 39 #[.int .i64 3, .int .i64 0] (0, 0) _ rfl (hK_ BK158.out) Tryd.underlying39 rfl (by kernel_rfl)) rfl ?_
  exact ⟨hV_, hC_⟩
 rw [if_neg c12] at H
 have c12b0 : ((rd l1 0) == 3) = false := beq_eq_false_iff_ne.mpr c12
 have c12b1 : ((rd l1 0) != 3) = true := bne_iff_ne.mpr c12
 replace H := Option.bind_eq_some_iff.mp H
 obtain ⟨⟨t160, t161⟩, A160, H⟩ := H
 try dsimp only at H
 have A16 := a_ A160
 clear A160
 have H' := a_ H
 clear H
 go_enter Tryd.func29, Tryd.ntmps29
 go_wp2_with (first | ((with_reducible refine gate_dst (N := 4) rfl ?_); refine boxE_ 4 #[.int .i64 0, .int .i64 0] 39 ?_; intro gb158 hg w17 hbox hb; have BK158 := a_ (hbox); have GW158 := a_ ((gE_ hg : w.heap.size ≤ gb158)); have GE158 := a_ ((gE_ hg : w.heap.size ≤ gb158)); replace HB := a_ (below_step hB_ hb); clear hb hbox hg; have p159 : 0 ≤ (0 : Int) := (by omega); have q159 : 0 < (l1.length : Int) := of_decide_eq_true hA_; obtain ⟨ad159, e159, hx159_0⟩ := Kd.at_int HR1.out 0 p159 q159; cases e159; have qi159 : (0 < l1.length) = True := eq_true (by omega); (try rw [show ((0 : Int)).toNat = 0 from rfl] at hx159_0); (try rw [Addr.add_zero'] at hx159_0); replace hx159_0 := cl_ HB.out hx159_0; replace p159 := eq_true p159; replace q159 := eq_true q159) | ((with_reducible refine gate_callee (f := 49) rfl ?_); refine goesL_ (some 26) rfl rfl Tryd.func49 (by kernel_rfl) rfl #[.slice A0 l0.length c0, .slice (some ad159) l1.length c1, .int .i64 0, .int .i64 2] rfl hL_ ?_; (with_reducible refine (top_first.calls _ _ l0 _ _ l1 0 2 t160 t161 _ ?side1 ?side2 ?side3 ?side4 A16.out).mono ?_); (case side1 => exact cB_ HR0.out); (case side2 => exact HC0.out); (case side3 => exact cB_ HR1.out); (case side4 => exact HC1.out); rintro e w18 ⟨rfl, hb⟩; refine ⟨_, rfl, ?_⟩; replace BK158 := a_ (bB_ BK158.out hb); replace HB := a_ (below_step hC_ hb); (try clear hb); (try clear hb2); (try clear hk); (try clear hi)))
 (try simp only [Act.put, List.setIfInBounds_toArray, List.set_cons_zero, List.set_cons_succ])
 go_loopg [5, 6, 7] k (fun kq v5 v6 v7 w' => ∃ (x5_1 : Int) (x6_1 : Int) (x7_1 : Bool), v5 = .int .i64 x5_1 ∧ v6 = .int .i64 x6_1 ∧ v7 = .bool x7_1 ∧ Aside0 (top_Ask.l0 kq l0 l1 x5_1 x6_1 x7_1 = some (r1, r2)) ∧ Aside0 (kq ≤ k) ∧ Aside0 (w'.heap[gb158]? = some (.cells #[.int .i64 0, .int .i64 0] 39 (0, 0))) ∧ Aside0 (Below w.heap.size w w'))
 case atStart => exact ⟨(0), (t160), (t161), hW_, hW_, hW_, H', ⟨Nat.le_refl _⟩, ⟨(hK_ BK158.out)⟩, ⟨hC_⟩⟩
 case round =>
  clear H'
  try clear c1
  try clear p1
  try clear q1
  try clear hx1
  try clear qi1
  try clear c2
  try clear p2
  try clear c3
  try clear c3b0
  try clear c3b1
  try clear c4
  try clear c4b0
  try clear c4b1
  try clear c8
  try clear c8b0
  try clear c8b1
  try clear c12
  try clear c12b0
  try clear c12b1
  try clear p15
  try clear q15
  try clear hx15
  try clear qi15
  try clear hcz10_0
  try clear hcz10_1
  try clear hcz14_0
  try clear hcz14_1
  try clear hcz6_0
  try clear hcz6_1
  try clear hfz10_0
  try clear hfz10_1
  try clear hfz14_0
  try clear hfz14_1
  try clear hfz6_0
  try clear hfz6_1
  try clear hx159_0
  try clear p159
  try clear q159
  obtain ⟨x5_1, x6_1, x7_1, rfl, rfl, rfl, HA, HK1, BK158, HB⟩ := hrel
  cases gk with
  | zero => exact absurd HA.out (by simp [top_Ask.l0])
  | succ k1 =>
   have H := HA.out
   clear HA
   simp only [top_Ask.l0] at H
   by_cases c19 : x7_1 = true
   case pos =>
    subst c19
    rw [if_pos rfl] at H
    replace H := Option.bind_eq_some_iff.mp H
    obtain ⟨⟨t162, t163⟩, A200, H⟩ := H
    try dsimp only at H
    have A20 := a_ A200
    clear A200
    have H' := a_ H
    clear H
    go_wp2_with (first | ((with_reducible refine gate_callee (f := 49) rfl ?_); refine goesL_ (some 34) rfl rfl Tryd.func49 (by kernel_rfl) rfl #[.slice A0 l0.length c0, .slice (some ad159) l1.length c1, .int .i64 x6_1, .int .i64 2] rfl hL_ ?_; (with_reducible refine (top_first.calls _ _ l0 _ _ l1 x6_1 2 t162 t163 _ ?side1 ?side2 ?side3 ?side4 A20.out).mono ?_); (case side1 => exact cB_ HR0.out); (case side2 => exact HC0.out); (case side3 => exact cB_ HR1.out); (case side4 => exact HC1.out); rintro e w21 ⟨rfl, hb⟩; refine ⟨_, rfl, ?_⟩; replace BK158 := a_ (bB_ BK158.out hb); replace HB := a_ (below_step hC_ hb); (try clear hb); (try clear hb2); (try clear hk); (try clear hi)))
    go_roundg k1
    case measure => have := HK1.out; omega
    case rel => exact ⟨(x6_1), (t162), (t163), hW_, hW_, hW_, H', ⟨by have := HK1.out; omega⟩, ⟨(hK_ BK158.out)⟩, ⟨hC_⟩⟩
   replace c19 := Bool.eq_false_iff.mpr c19
   subst c19
   rw [if_neg (show ¬ (false = true) by decide)] at H
   replace H := Option.bind_eq_some_iff.mp H
   obtain ⟨⟨t164, t165⟩, A220, H⟩ := H
   try dsimp only at H
   have A22 := a_ A220
   clear A220
   by_cases c23 : t165 = true
   case pos =>
    subst c23
    rw [if_pos rfl] at H
    simp only [Option.some.injEq, Prod.mk.injEq] at H
    obtain ⟨rfl, rfl⟩ := H
    go_wp2_with (first | ((with_reducible refine gate_callee (f := 49) rfl ?_); refine goesL_ (some 42) rfl rfl Tryd.func49 (by kernel_rfl) rfl #[.slice A0 l0.length c0, .slice (some ad159) l1.length c1, .int .i64 x5_1, .int .i64 0] rfl hL_ ?_; (with_reducible refine (top_first.calls _ _ l0 _ _ l1 x5_1 0 t164 true _ ?side1 ?side2 ?side3 ?side4 A22.out).mono ?_); (case side1 => exact cB_ HR0.out); (case side2 => exact HC0.out); (case side3 => exact cB_ HR1.out); (case side4 => exact HC1.out); rintro e w24 ⟨rfl, hb⟩; refine ⟨_, rfl, ?_⟩; replace BK158 := a_ (bB_ BK158.out hb); replace HB := a_ (below_step hC_ hb); (try clear hb); (try clear hb2); (try clear hk); (try clear hi); obtain ⟨hcz25_0, hcz25_1, hfz25_0, hfz25_1⟩ := bx2_ BK158.out) | ((with_reducible refine gate_store (t := 39) (p := 4) rfl ?_); refine store_event (t := 39) (p := 4) (v := ?vo_w26) (w1 := ((w24.setCell ⟨gb158, 0, none⟩ (.int .i64 0)).setCell ⟨gb158, 1, none⟩ (.int .i64 t164))) ?hg ?ho ?hn ?hr ?_; (case ho => rfl); (case hg => rfl); (case hn => rfl); (case hr => first | (go_simp; done) | (go_simp; rfl)); intro w26 hw; replace BK158 : Aside0 (w26.heap[gb158]? = some (.cells #[.int .i64 0, .int .i64 t164] 39 (0, 0))) := ⟨(by rw [hw]; exact (bP_ (bP_ (hK_ BK158.out))))⟩; replace HB : Aside0 (Below w.heap.size w w26) := ⟨(by rw [hw]; exact hC_)⟩; clear hw))
    refine bodyPost_ret (results_cell_row rfl _ _ gb158 39 #[.int .i64 0, .int .i64 t164] (0, 0) _ rfl (hK_ BK158.out) Tryd.underlying39 rfl (by kernel_rfl)) rfl ?_
    exact ⟨hV_, hC_⟩
   replace c23 := Bool.eq_false_iff.mpr c23
   subst c23
   rw [if_neg (show ¬ (false = true) by decide)] at H
   replace H := Option.bind_eq_some_iff.mp H
   obtain ⟨⟨t166, t167⟩, A270, H⟩ := H
   try dsimp only at H
   have A27 := a_ A270
   clear A270
   simp only [Option.some.injEq, Prod.mk.injEq] at H
   obtain ⟨rfl, rfl⟩ := H
   go_wp2_with (first | ((with_reducible refine gate_callee (f := 49) rfl ?_); refine goesL_ (some 42) rfl rfl Tryd.func49 (by kernel_rfl) rfl #[.slice A0 l0.length c0, .slice (some ad159) l1.length c1, .int .i64 x5_1, .int .i64 0] rfl hL_ ?_; (with_reducible refine (top_first.calls _ _ l0 _ _ l1 x5_1 0 t164 false _ ?side1 ?side2 ?side3 ?side4 A22.out).mono ?_); (case side1 => exact cB_ HR0.out); (case side2 => exact HC0.out); (case side3 => exact cB_ HR1.out); (case side4 => exact HC1.out); rintro e w28 ⟨rfl, hb⟩; refine ⟨_, rfl, ?_⟩; replace BK158 := a_ (bB_ BK158.out hb); replace HB := a_ (below_step hC_ hb); (try clear hb); (try clear hb2); (try clear hk); (try clear hi)) | ((with_reducible refine gate_callee (f := 48) rfl ?_); refine goesL_ (some 51) rfl rfl Tryd.func48 (by kernel_rfl) rfl #[.slice A0 l0.length c0, .slice (some ad159) l1.length c1, .int .i64 x5_1] rfl hL_ ?_; (with_reducible refine (top_Bug.calls _ _ l0 _ _ l1 x5_1 t166 t167 _ ?side1 ?side2 ?side3 ?side4 A27.out).mono ?_); (case side1 => exact cB_ HR0.out); (case side2 => exact HC0.out); (case side3 => exact cB_ HR1.out); (case side4 => exact HC1.out); rintro e w29 ⟨rfl, hb⟩; refine ⟨_, rfl, ?_⟩; replace BK158 := a_ (bB_ BK158.out hb); replace HB := a_ (below_step hC_ hb); (try clear hb); (try clear hb2); (try clear hk); (try clear hi); obtain ⟨hcz30_0, hcz30_1, hfz30_0, hfz30_1⟩ := bx2_ BK158.out) | ((with_reducible refine gate_store (t := 39) (p := 4) rfl ?_); refine store_event (t := 39) (p := 4) (v := ?vo_w31) (w1 := ((w29.setCell ⟨gb158, 0, none⟩ (.int .i64 t166)).setCell ⟨gb158, 1, none⟩ (.int .i64 t167))) ?hg ?ho ?hn ?hr ?_; (case ho => rfl); (case hg => rfl); (case hn => rfl); (case hr => first | (go_simp; done) | (go_simp; rfl)); intro w31 hw; replace BK158 : Aside0 (w31.heap[gb158]? = some (.cells #[.int .i64 t166, .int .i64 t167] 39 (0, 0))) := ⟨(by rw [hw]; exact (bP_ (bP_ (hK_ BK158.out))))⟩; replace HB : Aside0 (Below w.heap.size w w31) := ⟨(by rw [hw]; exact hC_)⟩; clear hw))
   refine bodyPost_ret (results_cell_row rfl _ _ gb158 39 #[.int .i64 t166, .int .i64 t167] (0, 0) _ rfl (hK_ BK158.out) Tryd.underlying39 rfl (by kernel_rfl)) rfl ?_
   exact ⟨hV_, hC_⟩
end Go.Proofs.YtgokcaccamfgfaaDoor.G
end
section
-- Laid by the session's own driver gp.py over the kit's printer. Not trusted: Lean checks it.
namespace Go.Proofs.YtgokcaccamfgfaaDoor.G
open Go.RowKit Go.Proofs.YtgokcaccamfgfaaDoorW.PrintWords Go.Proofs.YtgokcaccamfgfaaDoorW.PrintLast Go.Proofs.YtgokcaccamfgfaaDoorW.PrintMore
set_option maxHeartbeats 8000000
set_option maxRecDepth 100000
attribute [local go_sem] max2_int min2_int max_two min_two max_three min_three max_four min_four   -- for this text's walks alone
set_option linter.unusedVariables false
set_option linter.unusedSimpArgs false

def half_last.l0 : Nat → Int → List Int → Int → Int → Option (Int)
 | 0, _, _, _, _ => none
 | k + 1, x3, x6, x7, x8 => if x8 < x7 then (if 0 ≤ x8 then (if x8 < (x6.length : Int) then (if (rd x6 x8) = 2 then (half_last.l0 k x8 x6 x7 (wrap64 (x8 + 1))) else (half_last.l0 k x3 x6 x7 (wrap64 (x8 + 1)))) else (none)) else (none)) else (some x3)
def half_last.f (k : Nat) (l0 : List Int) : Option (Int) := half_last.l0 k 0 l0 (l0.length : Int) 0
theorem half_last.mono_l : ∀ k, (∀ y0 y1 y2 y3, LeO (half_last.l0 k y0 y1 y2 y3) (half_last.l0 (k + 1) y0 y1 y2 y3))
 | 0 => fun _ _ _ _ r h => by simp [half_last.l0] at h
 | k + 1 => by
  have ih0 := half_last.mono_l k
  · intro y0 y1 y2 y3
    unfold half_last.l0
    repeat' first
    | (with_reducible exact ih0 _ _ _ _)
    | (with_reducible exact LeO.refl _)
    | (with_reducible exact LeO.none _)
    | (with_reducible refine LeO.ite ?_ ?_)
    | (with_reducible refine LeO.bind ?_ (fun _ => ?_))
    | exact ih0 _ _ _ _
    | exact LeO.none _
    | refine LeO.ite ?_ ?_
    | refine LeO.bind ?_ (fun _ => ?_)
theorem half_last.mono : ∀ a0 k, LeO (half_last.f k a0) (half_last.f (k + 1) a0) := by
 intro a0 k
 have ih0 := half_last.mono_l k
 unfold half_last.f
 repeat' first
  | (with_reducible exact ih0 _ _ _ _)
  | (with_reducible exact LeO.refl _)
  | (with_reducible exact LeO.none _)
  | (with_reducible refine LeO.ite ?_ ?_)
  | (with_reducible refine LeO.bind ?_ (fun _ => ?_))
  | exact ih0 _ _ _ _
  | exact LeO.none _
  | refine LeO.ite ?_ ?_
  | refine LeO.bind ?_ (fun _ => ?_)
theorem half_last.calls (k : Nat) (A0 : Option Addr) (c0 : Nat) (l0 : List Int) (r : Int) (w : World) (hr0 : Kd.C (Kd.int .i64) w A0 l0.length l0) (hc0 : l0.length ≤ c0) (h : half_last.f k l0 = some r) :
 Calls Tryd.prog 42 #[.slice A0 l0.length c0] w fun e w' => e = .returned (.int .i64 r) ∧ Drawn0 w w' := by
 have HR0 := a_ hr0
 have HC0 := a_ hc0
 clear hr0 hc0
 have H : (half_last.l0 k 0 l0 (l0.length : Int) 0) = some r := h
 clear h
 have H' := a_ H
 clear H
 go_enter Tryd.func42, Tryd.ntmps42
 go_wp2
 go_loopg [3, 8] k (fun kq v3 v8 w' => ∃ (x3_1 : Int) (x8_1 : Int), v3 = .int .i64 x3_1 ∧ v8 = .int .i64 x8_1 ∧ Aside0 (half_last.l0 kq x3_1 l0 (l0.length : Int) x8_1 = some r) ∧ Aside0 (kq ≤ k) ∧ Drawn0 w w')
 case atStart => exact ⟨(0), (0), hW_, hW_, H', ⟨Nat.le_refl _⟩, by repeat (first | exact Drawn0.refl _ | apply Drawn0.step)⟩
 case round =>
  clear H'
  obtain ⟨x3_1, x8_1, rfl, rfl, HA, HK1, ⟨m1, rfl⟩⟩ := hrel
  cases gk with
  | zero => exact absurd HA.out (by simp [half_last.l0])
  | succ k1 =>
   have H := HA.out
   clear HA
   simp only [half_last.l0] at H
   by_cases c2 : x8_1 < (l0.length : Int)
   case neg =>
    rw [if_neg c2] at H
    have c2b0 : decide (x8_1 < (l0.length : Int)) = false := decide_eq_false c2
    clear c2
    obtain rfl := Option.some.inj H
    go_wp2
    go_ret
    exact ⟨by first | rfl | (simp; done) | (simp [*]; done), by repeat (first | exact Drawn0.refl _ | apply Drawn0.step)⟩

   rw [if_pos c2] at H
   have c2b0 : decide (x8_1 < (l0.length : Int)) = true := decide_eq_true c2
   clear c2
   replace H := ifI_ H; obtain ⟨c3, H⟩ := H
   have c3b0 : decide (0 ≤ x8_1) = true := decide_eq_true c3
   clear c3
   replace H := ifI_ H; obtain ⟨c4, H⟩ := H
   have c4b0 : decide (x8_1 < (l0.length : Int)) = true := decide_eq_true c4
   clear c4
   by_cases c5 : (rd l0 x8_1) = 2
   case neg =>
    rw [if_neg c5] at H
    have c5b0 : ((rd l0 x8_1) == 2) = false := beq_eq_false_iff_ne.mpr c5
    have c5b1 : ((rd l0 x8_1) != 2) = true := bne_iff_ne.mpr c5
    have H' := a_ H
    clear H
    have p168 : 0 ≤ (x8_1 : Int) := of_decide_eq_true hA_
    have q168 : x8_1 < (l0.length : Int) := of_decide_eq_true hA_
    obtain ⟨ad168, e168, hx168_0⟩ := Kd.at_int HR0.out x8_1 p168 q168
    cases e168
    replace p168 := eq_true p168
    replace q168 := eq_true q168
    go_wp2
    go_roundg k1
    case measure => have := HK1.out; omega
    case rel => exact ⟨(x3_1), (wrap64 (x8_1 + 1)), hW_, hW_, H', ⟨by have := HK1.out; omega⟩, by repeat (first | exact Drawn0.refl _ | apply Drawn0.step)⟩
   rw [if_pos c5] at H
   have c5b0 : ((rd l0 x8_1) == 2) = true := beq_iff_eq.mpr c5
   have c5b1 : ((rd l0 x8_1) != 2) = false := bne_eq_false_iff_eq.mpr c5
   clear c5
   have H' := a_ H
   clear H
   have p168 : 0 ≤ (x8_1 : Int) := of_decide_eq_true hA_
   have q168 : x8_1 < (l0.length : Int) := of_decide_eq_true hA_
   obtain ⟨ad168, e168, hx168_0⟩ := Kd.at_int HR0.out x8_1 p168 q168
   cases e168
   replace p168 := eq_true p168
   replace q168 := eq_true q168
   go_wp2
   go_roundg k1
   case measure => have := HK1.out; omega
   case rel => exact ⟨(x8_1), (wrap64 (x8_1 + 1)), hW_, hW_, H', ⟨by have := HK1.out; omega⟩, by repeat (first | exact Drawn0.refl _ | apply Drawn0.step)⟩
end Go.Proofs.YtgokcaccamfgfaaDoor.G
end
section
-- Laid by the session's own driver gp.py over the kit's printer. Not trusted: Lean checks it.
namespace Go.Proofs.YtgokcaccamfgfaaDoor.G
open Go.RowKit Go.Proofs.YtgokcaccamfgfaaDoorW.PrintWords Go.Proofs.YtgokcaccamfgfaaDoorW.PrintLast Go.Proofs.YtgokcaccamfgfaaDoorW.PrintMore
set_option maxHeartbeats 8000000
set_option maxRecDepth 100000
attribute [local go_sem] max2_int min2_int max_two min_two max_three min_three max_four min_four   -- for this text's walks alone
set_option linter.unusedVariables false
set_option linter.unusedSimpArgs false

def half_doubts.l0 : Nat → List (S33) → List Int → Int → List Bool → Int → Option (List Bool)
 | 0, _, _, _, _, _ => none
 | k + 1, x0, x1, x2, x7, x8 => if x8 < (x0.length : Int) then (if 0 ≤ x8 then (if ((rd_T33 x0 x8).f1) = x2 then (if x8 < (x1.length : Int) then (if x8 < (x7.length : Int) then (half_doubts.l0 k x0 x1 x2 (x7.set (x8 : Int).toNat ((rd x1 x8) != 1)) (wrap64 (x8 + 1))) else (none)) else (none)) else (if 0 ≤ ((rd_T33 x0 x8).f1) then (if ((rd_T33 x0 x8).f1) < (x7.length : Int) then (if rdOf false x7 ((rd_T33 x0 x8).f1) = true then (if x8 < (x1.length : Int) then (if x8 < (x7.length : Int) then (half_doubts.l0 k x0 x1 x2 (x7.set (x8 : Int).toNat ((rd x1 x8) != 1)) (wrap64 (x8 + 1))) else (none)) else (none)) else (if x8 < (x7.length : Int) then (half_doubts.l0 k x0 x1 x2 (x7.set (x8 : Int).toNat false) (wrap64 (x8 + 1))) else (none))) else (none)) else (none))) else (none)) else (some x7)
def half_doubts.f (k : Nat) (l0 : List (S33)) (l1 : List Int) (a2 : Int) : Option (List Bool) := if 0 ≤ (l0.length : Int) then (if ((l0.length : Int) : Int).toNat ≤ 281474976710656 then (half_doubts.l0 k l0 l1 a2 (List.replicate ((l0.length : Int) : Int).toNat false) (wrap64 (a2 + 1))) else (none)) else (none)
theorem half_doubts.mono_l : ∀ k, (∀ y0 y1 y2 y3 y4, LeO (half_doubts.l0 k y0 y1 y2 y3 y4) (half_doubts.l0 (k + 1) y0 y1 y2 y3 y4))
 | 0 => fun _ _ _ _ _ r h => by simp [half_doubts.l0] at h
 | k + 1 => by
  have ih0 := half_doubts.mono_l k
  · intro y0 y1 y2 y3 y4
    unfold half_doubts.l0
    repeat' first
    | (with_reducible exact ih0 _ _ _ _ _)
    | (with_reducible exact LeO.refl _)
    | (with_reducible exact LeO.none _)
    | (with_reducible refine LeO.ite ?_ ?_)
    | (with_reducible refine LeO.bind ?_ (fun _ => ?_))
    | exact ih0 _ _ _ _ _
    | exact LeO.none _
    | refine LeO.ite ?_ ?_
    | refine LeO.bind ?_ (fun _ => ?_)
theorem half_doubts.mono : ∀ a0 a1 a2 k, LeO (half_doubts.f k a0 a1 a2) (half_doubts.f (k + 1) a0 a1 a2) := by
 intro a0 a1 a2 k
 have ih0 := half_doubts.mono_l k
 unfold half_doubts.f
 repeat' first
  | (with_reducible exact ih0 _ _ _ _ _)
  | (with_reducible exact LeO.refl _)
  | (with_reducible exact LeO.none _)
  | (with_reducible refine LeO.ite ?_ ?_)
  | (with_reducible refine LeO.bind ?_ (fun _ => ?_))
  | exact ih0 _ _ _ _ _
  | exact LeO.none _
  | refine LeO.ite ?_ ?_
  | refine LeO.bind ?_ (fun _ => ?_)
theorem half_doubts.calls (k : Nat) (A0 : Option Addr) (c0 : Nat) (l0 : List (S33)) (A1 : Option Addr) (c1 : Nat) (l1 : List Int) (a2 : Int) (r : List Bool) (w : World) (hr0 : Kd.C k33 w A0 l0.length l0) (hc0 : l0.length ≤ c0) (hr1 : Kd.C (Kd.int .i64) w A1 l1.length l1) (hc1 : l1.length ≤ c1) (h : half_doubts.f k l0 l1 a2 = some r) :
 Calls Tryd.prog 43 #[.slice A0 l0.length c0, .slice A1 l1.length c1, .int .i64 a2] w fun e w' => ∃ v0_ : Value, e = .returned (v0_) ∧ Kd.R Kd.bool 4 w' w.heap.size (fun _ => True) v0_ r ∧ Below w.heap.size w w' := by
 have HR0 := a_ hr0
 have HC0 := a_ hc0
 clear hr0 hc0
 have HR1 := a_ hr1
 have HC1 := a_ hc1
 clear hr1 hc1
 have HB := a_ (Below.refl w.heap.size w)
 have H := h; unfold half_doubts.f at H
 clear h
 replace H := ifI_ H; obtain ⟨c4, H⟩ := H
 have c4b0 := eq_true c4
 have c4b1 : decide (0 ≤ (l0.length : Int)) = true := decide_eq_true c4
 clear c4
 replace H := ifI_ H; obtain ⟨c5, H⟩ := H
 have c5b0 := eq_true c5
 have c5b1 : decide (((l0.length : Int) : Int).toNat ≤ 281474976710656) = true := decide_eq_true c5
 clear c5
 obtain ⟨y169, hy169⟩ : ∃ y_ : List Bool, y_ = (List.replicate ((l0.length : Int) : Int).toNat false) := ⟨_, rfl⟩
 replace H : (half_doubts.l0 k l0 l1 a2 y169 (wrap64 (a2 + 1))) = some r := by first | (rw [hy169]; with_reducible exact H) | (have H2_ := (Option.bind_some _ _).symm.trans H; rw [hy169]; with_reducible exact H2_) | (have H2_ := (Option.bind_some _ _).symm.trans H; with_reducible exact H2_) | with_reducible exact H | (rw [hy169]; exact H) | exact H
 have Ny169 := a_ hy169
 clear hy169
 have H' := a_ H
 clear H
 go_enter Tryd.func43, Tryd.ntmps43
 go_wp2_with (first | ((with_reducible refine gate_dst (N := 12) rfl ?_); refine Kd.R_make Kd.bool _ 4 rfl (N := 12) rfl 75 _ _ rfl (l0.length : Int) rfl rfl Tryd.underlying75 (.bool false) 1 info4 rfl (by decide) (by omega) false (ok := fun _ => True) (okp := fun _ => True) rfl (fun _ hk => hk) trivial (of_decide_eq_true hA_) (Nat.le_trans (Nat.mul_le_mul_right _ (of_decide_eq_true hA_ : (l0.length : Int).toNat ≤ 281474976710656)) (by omega)) (Below.refl _ _) (Nat.le_refl _) ?_; intro v170 w6 ho7 hb hg_ hnew_; clear hg_ hnew_; (first | rw [← Ny169.out] at ho7 | (simp only [Int.reduceToNat] at ho7; rw [← Ny169.out] at ho7)); have HO171 := a_ (Kd.R_lower ho7 hS_); replace HB := a_ (below_step hB_ hb); clear hb ho7))
 go_loopg [8] k (fun kq v8 w' => ∃ (x7_1 : List Bool) (x8_1 : Int), v8 = .int .i64 x8_1 ∧ Aside0 (half_doubts.l0 kq l0 l1 a2 x7_1 x8_1 = some r) ∧ Aside0 (kq ≤ k) ∧ Aside0 (Kd.R Kd.bool 4 w' w.heap.size (fun _ => True) v170 x7_1) ∧ Aside0 (Below w.heap.size w w'))
 case atStart => exact ⟨(y169), (wrap64 (a2 + 1)), hW_, H', ⟨Nat.le_refl _⟩, ⟨hR_ HO171.out⟩, ⟨hC_⟩⟩
 case round =>
  clear H'
  try clear c1
  try clear p2
  try clear c4
  try clear c4b0
  try clear c4b1
  try clear c5
  try clear c5b0
  try clear c5b1
  try clear p6
  obtain ⟨x7_1, x8_1, rfl, HA, HK1, HO_7, HB⟩ := hrel
  cases gk with
  | zero => exact absurd HA.out (by simp [half_doubts.l0])
  | succ k1 =>
   have H := HA.out
   clear HA
   simp only [half_doubts.l0] at H
   by_cases c8 : x8_1 < (l0.length : Int)
   case neg =>
    rw [if_neg c8] at H
    have c8b0 : decide (x8_1 < (l0.length : Int)) = false := decide_eq_false c8
    clear c8
    obtain rfl := Option.some.inj H
    go_wp2
    go_ret
    exact ⟨_, hV_, hR_ HO_7.out, hC_⟩
   rw [if_pos c8] at H
   have c8b0 : decide (x8_1 < (l0.length : Int)) = true := decide_eq_true c8
   clear c8
   replace H := ifI_ H; obtain ⟨c9, H⟩ := H
   have c9b0 : decide (0 ≤ x8_1) = true := decide_eq_true c9
   clear c9
   by_cases c10 : ((rd_T33 l0 x8_1).f1) = a2
   case pos =>
    rw [if_pos c10] at H
    have c10b0 : (((rd_T33 l0 x8_1).f1) == a2) = true := beq_iff_eq.mpr c10
    have c10b1 : (((rd_T33 l0 x8_1).f1) != a2) = false := bne_eq_false_iff_eq.mpr c10
    clear c10
    replace H := ifI_ H; obtain ⟨c11, H⟩ := H
    have c11b0 : decide (x8_1 < (l1.length : Int)) = true := decide_eq_true c11
    clear c11
    replace H := ifI_ H; obtain ⟨c12, H⟩ := H
    have c12b0 : decide (x8_1 < (x7_1.length : Int)) = true := decide_eq_true c12
    clear c12
    obtain ⟨y174, hy174⟩ : ∃ y_ : List Bool, y_ = (x7_1.set (x8_1 : Int).toNat ((rd l1 x8_1) != 1)) := ⟨_, rfl⟩
    replace H : (half_doubts.l0 k1 l0 l1 a2 y174 (wrap64 (x8_1 + 1))) = some r := by first | (rw [hy174]; with_reducible exact H) | (have H2_ := (Option.bind_some _ _).symm.trans H; rw [hy174]; with_reducible exact H2_) | (have H2_ := (Option.bind_some _ _).symm.trans H; with_reducible exact H2_) | with_reducible exact H | (rw [hy174]; exact H) | exact H
    have Ny174 := a_ hy174
    clear hy174
    have H' := a_ H
    clear H
    have p172 : 0 ≤ (x8_1 : Int) := of_decide_eq_true hA_
    have q172 : x8_1 < (l0.length : Int) := of_decide_eq_true hA_
    obtain ⟨ad172, A172_2, c172_2, e172, hx172_0, hx172_1, hx172_2, hx172_3, hl172_2, hi172_2⟩ := at_T33 HR0.out x8_1 p172 q172
    cases e172
    replace hx172_0 := cl_ HB.out hx172_0
    replace hx172_1 := cl_ HB.out hx172_1
    replace hx172_2 := cl_ HB.out hx172_2
    replace hx172_3 := cl_ HB.out hx172_3
    have HR172_2 := a_ hi172_2
    have HC172_2 := a_ hl172_2
    clear hi172_2 hl172_2
    replace p172 := eq_true p172
    replace q172 := eq_true q172
    have p173 : 0 ≤ (x8_1 : Int) := of_decide_eq_true hA_
    have q173 : x8_1 < (l1.length : Int) := of_decide_eq_true hA_
    obtain ⟨ad173, e173, hx173_0⟩ := Kd.at_int HR1.out x8_1 p173 q173
    cases e173
    replace hx173_0 := cl_ HB.out hx173_0
    replace p173 := eq_true p173
    replace q173 := eq_true q173
    have p13 : 0 ≤ (x8_1 : Int) := of_decide_eq_true hA_
    have q13 : (x8_1 : Int) < ((x7_1.length : Int) : Int) := of_decide_eq_true hA_
    obtain ⟨go13, co13, eo13, gb13, gl13, cl13, HG13⟩ := Kd.R_form HO_7.out (by omega)
    (first | cases eo13 | (injection eo13 with ea_ en_ ec_; (first | subst ea_ | (injection ea_ with ea_; subst ea_)); subst ec_; clear en_))
    have GB13 := a_ gb13
    have GG13 := a_ HG13
    clear gb13 gl13 HG13
    obtain ⟨hx13_0, hf13_0⟩ := Kd.R_celln false HO_7.out (x8_1 : Int) p13 q13
    replace p13 := eq_true p13
    replace q13 := eq_true q13
    have HP14 := Kd.R_putg HO_7.out (x8_1 : Int) ((rd l1 x8_1) != 1)
    go_wp2_with (first | ((with_reducible refine gate_store (t := 4) (p := 44) rfl ?_); refine store_event (t := 4) (p := 44) (v := ?vo_w15) (w1 := (wr.setCell ⟨go13, (x8_1 : Int).toNat, none⟩ (.bool ((rd l1 x8_1) != 1)))) ?hg ?ho ?hn ?hr ?_; (case ho => rfl); (case hg => rfl); (case hn => rfl); (case hr => first | (go_simp; done) | (go_simp; rfl)); intro w15 hw; have hg : wr.grownBy w15 (some go13) := (by rw [hw]; exact HP14.2); have hp_ : Kd.R Kd.bool 4 w15 w.heap.size (fun _ => True) (.slice (some ⟨go13, 0, none⟩) x7_1.length co13) y174 := (by rw [hw, Ny174.out]; exact HP14.1); clear HP14; replace HO_7 := a_ (hp_); replace HB := a_ ((by rw [hw]; exact below_set (HB.out) GB13.out : Below w.heap.size w w15)); clear hg hw hp_))
    go_roundg k1
    case measure => have := HK1.out; omega
    case rel => exact ⟨(y174), (wrap64 (x8_1 + 1)), hW_, H', ⟨by have := HK1.out; omega⟩, ⟨hR_ HO_7.out⟩, ⟨hC_⟩⟩
   rw [if_neg c10] at H
   have c10b0 : (((rd_T33 l0 x8_1).f1) == a2) = false := beq_eq_false_iff_ne.mpr c10
   have c10b1 : (((rd_T33 l0 x8_1).f1) != a2) = true := bne_iff_ne.mpr c10
   replace H := ifI_ H; obtain ⟨c16, H⟩ := H
   have c16b0 : decide (0 ≤ ((rd_T33 l0 x8_1).f1)) = true := decide_eq_true c16
   clear c16
   replace H := ifI_ H; obtain ⟨c17, H⟩ := H
   have c17b0 : decide (((rd_T33 l0 x8_1).f1) < (x7_1.length : Int)) = true := decide_eq_true c17
   clear c17
   obtain ⟨bq18, hbq18⟩ : ∃ b_ : Bool, b_ = (rdOf false x7_1 ((rd_T33 l0 x8_1).f1)) := ⟨_, rfl⟩
   replace H : (if bq18 = true then (if x8_1 < (l1.length : Int) then (if x8_1 < (x7_1.length : Int) then (half_doubts.l0 k1 l0 l1 a2 (x7_1.set (x8_1 : Int).toNat ((rd l1 x8_1) != 1)) (wrap64 (x8_1 + 1))) else (none)) else (none)) else (if x8_1 < (x7_1.length : Int) then (half_doubts.l0 k1 l0 l1 a2 (x7_1.set (x8_1 : Int).toNat false) (wrap64 (x8_1 + 1))) else (none))) = some r := by rw [← hbq18] at H; exact H
   have Nbq18 := a_ hbq18
   clear hbq18
   by_cases c19 : bq18 = true
   case neg =>
    replace c19 := Bool.eq_false_iff.mpr c19
    subst c19
    rw [if_neg (show ¬ (false = true) by decide)] at H
    replace H := ifI_ H; obtain ⟨c26, H⟩ := H
    have c26b0 : decide (x8_1 < (x7_1.length : Int)) = true := decide_eq_true c26
    clear c26
    obtain ⟨y178, hy178⟩ : ∃ y_ : List Bool, y_ = (x7_1.set (x8_1 : Int).toNat false) := ⟨_, rfl⟩
    replace H : (half_doubts.l0 k1 l0 l1 a2 y178 (wrap64 (x8_1 + 1))) = some r := by first | (rw [hy178]; with_reducible exact H) | (have H2_ := (Option.bind_some _ _).symm.trans H; rw [hy178]; with_reducible exact H2_) | (have H2_ := (Option.bind_some _ _).symm.trans H; with_reducible exact H2_) | with_reducible exact H | (rw [hy178]; exact H) | exact H
    have Ny178 := a_ hy178
    clear hy178
    have H' := a_ H
    clear H
    have p172 : 0 ≤ (x8_1 : Int) := of_decide_eq_true hA_
    have q172 : x8_1 < (l0.length : Int) := of_decide_eq_true hA_
    obtain ⟨ad172, A172_2, c172_2, e172, hx172_0, hx172_1, hx172_2, hx172_3, hl172_2, hi172_2⟩ := at_T33 HR0.out x8_1 p172 q172
    cases e172
    replace hx172_0 := cl_ HB.out hx172_0
    replace hx172_1 := cl_ HB.out hx172_1
    replace hx172_2 := cl_ HB.out hx172_2
    replace hx172_3 := cl_ HB.out hx172_3
    have HR172_2 := a_ hi172_2
    have HC172_2 := a_ hl172_2
    clear hi172_2 hl172_2
    replace p172 := eq_true p172
    replace q172 := eq_true q172
    obtain ⟨Ao28, co28, eo28⟩ := Kd.R_slice HO_7.out
    subst eo28
    have p175 : 0 ≤ (((rd_T33 l0 x8_1).f1) : Int) := of_decide_eq_true hA_
    have q175 : ((rd_T33 l0 x8_1).f1) < (x7_1.length : Int) := of_decide_eq_true hA_
    obtain ⟨ad175, e175, hx175_0⟩ := Kd.at_bool (Kd.R_reads' HO_7.out).2.2 ((rd_T33 l0 x8_1).f1) p175 q175
    (try rw [← Nbq18.out] at hx175_0)
    cases e175
    replace p175 := eq_true p175
    replace q175 := eq_true q175
    have p27 : 0 ≤ (x8_1 : Int) := of_decide_eq_true hA_
    have q27 : (x8_1 : Int) < ((x7_1.length : Int) : Int) := of_decide_eq_true hA_
    obtain ⟨go27, co27, eo27, gb27, gl27, cl27, HG27⟩ := Kd.R_form HO_7.out (by omega)
    (first | cases eo27 | (injection eo27 with ea_ en_ ec_; (first | subst ea_ | (injection ea_ with ea_; subst ea_)); subst ec_; clear en_))
    have GB27 := a_ gb27
    have GG27 := a_ HG27
    clear gb27 gl27 HG27
    (first | simp only [add_plain] at hx175_0 | skip)
    obtain ⟨hx27_0, hf27_0⟩ := Kd.R_celln false HO_7.out (x8_1 : Int) p27 q27
    replace p27 := eq_true p27
    replace q27 := eq_true q27
    have HP29 := Kd.R_putg HO_7.out (x8_1 : Int) false
    go_wp2_with (first | ((with_reducible refine gate_store (t := 4) (p := 44) rfl ?_); refine store_event (t := 4) (p := 44) (v := ?vo_w30) (w1 := (wr.setCell ⟨go27, (x8_1 : Int).toNat, none⟩ (.bool false))) ?hg ?ho ?hn ?hr ?_; (case ho => rfl); (case hg => rfl); (case hn => rfl); (case hr => first | (go_simp; done) | (go_simp; rfl)); intro w30 hw; have hg : wr.grownBy w30 (some go27) := (by rw [hw]; exact HP29.2); have hp_ : Kd.R Kd.bool 4 w30 w.heap.size (fun _ => True) (.slice (some ⟨go27, 0, none⟩) x7_1.length co28) y178 := (by rw [hw, Ny178.out]; exact HP29.1); clear HP29; replace HO_7 := a_ (hp_); replace HB := a_ ((by rw [hw]; exact below_set (HB.out) GB27.out : Below w.heap.size w w30)); clear hg hw hp_))
    go_roundg k1
    case measure => have := HK1.out; omega
    case rel => exact ⟨(y178), (wrap64 (x8_1 + 1)), hW_, H', ⟨by have := HK1.out; omega⟩, ⟨hR_ HO_7.out⟩, ⟨hC_⟩⟩
   subst c19
   rw [if_pos rfl] at H
   replace H := ifI_ H; obtain ⟨c20, H⟩ := H
   have c20b0 : decide (x8_1 < (l1.length : Int)) = true := decide_eq_true c20
   clear c20
   replace H := ifI_ H; obtain ⟨c21, H⟩ := H
   have c21b0 : decide (x8_1 < (x7_1.length : Int)) = true := decide_eq_true c21
   clear c21
   obtain ⟨y177, hy177⟩ : ∃ y_ : List Bool, y_ = (x7_1.set (x8_1 : Int).toNat ((rd l1 x8_1) != 1)) := ⟨_, rfl⟩
   replace H : (half_doubts.l0 k1 l0 l1 a2 y177 (wrap64 (x8_1 + 1))) = some r := by first | (rw [hy177]; with_reducible exact H) | (have H2_ := (Option.bind_some _ _).symm.trans H; rw [hy177]; with_reducible exact H2_) | (have H2_ := (Option.bind_some _ _).symm.trans H; with_reducible exact H2_) | with_reducible exact H | (rw [hy177]; exact H) | exact H
   have Ny177 := a_ hy177
   clear hy177
   have H' := a_ H
   clear H
   have p172 : 0 ≤ (x8_1 : Int) := of_decide_eq_true hA_
   have q172 : x8_1 < (l0.length : Int) := of_decide_eq_true hA_
   obtain ⟨ad172, A172_2, c172_2, e172, hx172_0, hx172_1, hx172_2, hx172_3, hl172_2, hi172_2⟩ := at_T33 HR0.out x8_1 p172 q172
   cases e172
   replace hx172_0 := cl_ HB.out hx172_0
   replace hx172_1 := cl_ HB.out hx172_1
   replace hx172_2 := cl_ HB.out hx172_2
   replace hx172_3 := cl_ HB.out hx172_3
   have HR172_2 := a_ hi172_2
   have HC172_2 := a_ hl172_2
   clear hi172_2 hl172_2
   replace p172 := eq_true p172
   replace q172 := eq_true q172
   obtain ⟨Ao23, co23, eo23⟩ := Kd.R_slice HO_7.out
   subst eo23
   have p175 : 0 ≤ (((rd_T33 l0 x8_1).f1) : Int) := of_decide_eq_true hA_
   have q175 : ((rd_T33 l0 x8_1).f1) < (x7_1.length : Int) := of_decide_eq_true hA_
   obtain ⟨ad175, e175, hx175_0⟩ := Kd.at_bool (Kd.R_reads' HO_7.out).2.2 ((rd_T33 l0 x8_1).f1) p175 q175
   (try rw [← Nbq18.out] at hx175_0)
   cases e175
   replace p175 := eq_true p175
   replace q175 := eq_true q175
   have p176 : 0 ≤ (x8_1 : Int) := of_decide_eq_true hA_
   have q176 : x8_1 < (l1.length : Int) := of_decide_eq_true hA_
   obtain ⟨ad176, e176, hx176_0⟩ := Kd.at_int HR1.out x8_1 p176 q176
   cases e176
   replace hx176_0 := cl_ HB.out hx176_0
   replace p176 := eq_true p176
   replace q176 := eq_true q176
   have p22 : 0 ≤ (x8_1 : Int) := of_decide_eq_true hA_
   have q22 : (x8_1 : Int) < ((x7_1.length : Int) : Int) := of_decide_eq_true hA_
   obtain ⟨go22, co22, eo22, gb22, gl22, cl22, HG22⟩ := Kd.R_form HO_7.out (by omega)
   (first | cases eo22 | (injection eo22 with ea_ en_ ec_; (first | subst ea_ | (injection ea_ with ea_; subst ea_)); subst ec_; clear en_))
   have GB22 := a_ gb22
   have GG22 := a_ HG22
   clear gb22 gl22 HG22
   (first | simp only [add_plain] at hx175_0 | skip)
   obtain ⟨hx22_0, hf22_0⟩ := Kd.R_celln false HO_7.out (x8_1 : Int) p22 q22
   replace p22 := eq_true p22
   replace q22 := eq_true q22
   have HP24 := Kd.R_putg HO_7.out (x8_1 : Int) ((rd l1 x8_1) != 1)
   go_wp2_with (first | ((with_reducible refine gate_store (t := 4) (p := 44) rfl ?_); refine store_event (t := 4) (p := 44) (v := ?vo_w25) (w1 := (wr.setCell ⟨go22, (x8_1 : Int).toNat, none⟩ (.bool ((rd l1 x8_1) != 1)))) ?hg ?ho ?hn ?hr ?_; (case ho => rfl); (case hg => rfl); (case hn => rfl); (case hr => first | (go_simp; done) | (go_simp; rfl)); intro w25 hw; have hg : wr.grownBy w25 (some go22) := (by rw [hw]; exact HP24.2); have hp_ : Kd.R Kd.bool 4 w25 w.heap.size (fun _ => True) (.slice (some ⟨go22, 0, none⟩) x7_1.length co23) y177 := (by rw [hw, Ny177.out]; exact HP24.1); clear HP24; replace HO_7 := a_ (hp_); replace HB := a_ ((by rw [hw]; exact below_set (HB.out) GB22.out : Below w.heap.size w w25)); clear hg hw hp_))
   go_roundg k1
   case measure => have := HK1.out; omega
   case rel => exact ⟨(y177), (wrap64 (x8_1 + 1)), hW_, H', ⟨by have := HK1.out; omega⟩, ⟨hR_ HO_7.out⟩, ⟨hC_⟩⟩
end Go.Proofs.YtgokcaccamfgfaaDoor.G
end
section
-- Laid by the session's own driver gp.py over the kit's printer. Not trusted: Lean checks it.
namespace Go.Proofs.YtgokcaccamfgfaaDoor.G
open Go.RowKit Go.Proofs.YtgokcaccamfgfaaDoorW.PrintWords Go.Proofs.YtgokcaccamfgfaaDoorW.PrintLast Go.Proofs.YtgokcaccamfgfaaDoorW.PrintMore
set_option maxHeartbeats 8000000
set_option maxRecDepth 100000
attribute [local go_sem] max2_int min2_int max_two min_two max_three min_three max_four min_four   -- for this text's walks alone
set_option linter.unusedVariables false
set_option linter.unusedSimpArgs false

/-- what the program does, from the last node on -/
def sizesL (ns : List S33) (c : Int → Int) : Nat → List Int → List Int
 | 0, o => o
 | n + 1, o =>
  let o1 := o.set n (wrap64 (rd o (n : Int) + c (n : Int)))
  sizesL ns c n (if 0 < n then o1.set ((rd_T33 ns (n : Int)).f1).toNat (wrap64 (rd o1 (rd_T33 ns (n : Int)).f1 + rd o1 (n : Int))) else o1)
def sizesP (ns : List S33) (c : Int → Int) : List Int := sizesL ns c ns.length (List.replicate ns.length 0)
theorem sizesL_len (ns : List S33) (c : Int → Int) : ∀ (n : Nat) (o : List Int), (sizesL ns c n o).length = o.length
 | 0, _ => rfl
 | n + 1, o => by
  rw [sizesL, sizesL_len ns c n]
  split <;> simp
theorem infoIntS : (Tryd.prog.info? 3).map (fun i => (i.zero, i.size, i.bytes)) = some (some (.int .i64 0), 1, 8) := by kernel_rfl
section
attribute [local go_sem] Oper.semAt_some
theorem tree_Sizes.in_ (n : Nat) (hn : 2 ≤ n) (g : Nat) (lb : Array Value) (eg : ∀ args w, (callFunc g args).run Tryd.prog w = .ok (.enter g args) w) (c : Int → Int) (A0 : Option Addr) (c0 : Nat) (l0 : List S33) (h512 : l0.length ≤ 512)
 (hP : ∀ i : Int, 0 ≤ i → i < (l0.length : Int) → ((0 ≤ (rd_T33 l0 i).f1 ∧ (rd_T33 l0 i).f1 < i) ∨ (i = 0 ∧ (rd_T33 l0 i).f1 = -1))) (w : World) (hC : Kd.C k33 w A0 l0.length l0)
 (hc : ∀ (i : Int) (W : World), 0 ≤ i → i < (l0.length : Int) → Below w.heap.size w W → Calls Tryd.prog g (#[.int .i64 i] ++ lb) W fun e W' => e = .returned (.int .i64 (c i)) ∧ ∃ m, W' = W.drewN m) :
 CallsIn Fence.wide n Tryd.prog 45 #[.slice A0 l0.length c0, .func (.func g) #[] lb] w fun e w' => ∃ v, e = .returned v ∧ (Kd.int .i64).R 3 w' w.heap.size (fun _ => True) v (sizesP l0 c) ∧ Below w.heap.size w w' := by
 have HC := a_ hC
 have HCC := a_ hc
 have HPP := a_ hP
 clear hC hc hP
 have ffg : Fence.wide.fn g := trivial
 have hmk := print_make_of (P := Tryd.prog) 34 3 (.int .i64 0) 8 Tryd.underlying34 infoIntS rfl (by omega) l0.length (by omega)
 have hmix : Tryd.prog.follows .mixedOrders = true := by kernel_rfl
 refine callsIn_of_wp Tryd.func45 rfl trivial ?_ rfl
 simp only [Tryd.ntmps45, List.size_toArray, List.length_cons, List.length_nil, Nat.reduceAdd, Nat.reduceSub, Array.replicate_succ, Array.replicate_zero, List.push_toArray, List.append_toArray, List.nil_append, List.cons_append]
 have HO := a_ (own_made_of (enc := Value.int .i64) (d := (0 : Int)) w w.heap.size 3 l0.length (Nat.le_refl _) (by omega))
 gi_wp2
 gi_loopw [6] (fun v wr => ∃ x : Int, v = .int .i64 x ∧ Aside0 (-1 ≤ x ∧ x < (l0.length : Int)) ∧ Aside0 (∃ o : List Int, o.length = l0.length ∧ wr.ownsRow w.heap.size 3 1 (.slice (some ⟨w.heap.size, 0, none⟩) l0.length l0.length) l0.length (encs (Value.int .i64) o) ∧ sizesL l0 c (x + 1).toNat o = sizesP l0 c) ∧ Aside0 (Below w.heap.size w wr))
  (fun v _ => (intOf v + 1).toNat)
 case atStart =>
  exact ⟨(l0.length : Int) - 1, by first | rfl | (congr 1; omega) | (simp; omega), ⟨by omega, by omega⟩, ⟨List.replicate l0.length 0, by simp, HO.out, by rw [show ((l0.length : Int) - 1 + 1).toNat = l0.length by omega]; rfl⟩, ⟨(Below.refl _ w).alloc (Nat.le_refl _) _⟩⟩
 case round =>
  obtain ⟨x, rfl, HX, HJ, HB⟩ := hrel
  clear hmk
  by_cases hx : 0 ≤ x
  case neg =>
   have hxb := decide_eq_false hx
   have HN := a_ hx
   clear hx
   gi_wp2
   go_ret
   obtain ⟨o, ho, hrow, hsz⟩ := HJ.out
   rw [show (x + 1).toNat = 0 by have := HX.out; have := HN.out; omega, sizesL] at hsz
   subst hsz
   exact ⟨_, rfl, Kd.R_of_own (by rw [ho]; exact hrow) (fun _ _ => trivial), HB.out⟩
  have hxb := decide_eq_true hx
  have hlt : x < (l0.length : Int) := HX.out.2
  obtain ⟨o, ho, hrow, hsz⟩ := HJ.out
  obtain ⟨hcx, hfx⟩ := own_at_of (d := (0 : Int)) hrow x hx hlt
  have HR := a_ (And.intro ho (And.intro hrow (And.intro hsz hx)))
  clear ho hrow hsz
  replace hlt := eq_true hlt
  replace hx := eq_true hx
  have HQ := a_ (fun k => HCC.out x (wr.drewN k) (of_eq_true hx) (of_eq_true hlt) (below_dn HB.out k))
  gi_wp2
  refine wpIn_region_head 9 rfl hmix (by kernel_rfl) ?_
  simp only [List.take_succ_cons, List.take_zero, List.drop_succ_cons, List.drop_zero]
  iterate 6 (quiet_step_in (fail))
  quiet_step_in (exact ⟨fun _ => by omega, CallsIn.quiet_of (callsIn_wide.2 (HQ.out _))⟩)
  iterate 2 (quiet_step_in (fail))
  refine wpQuietIn_nil ?_
  intro _ hw'
  obtain ⟨nq, hw''⟩ := hw'
  subst hw''
  by_cases hx1 : 0 < x
  case neg =>
   have hx1b := decide_eq_false hx1
   gi_wp2
   obtain ⟨ho, hrow, hsz, hX⟩ := HR.out
   have hst := (own_store_of (enc := Value.int .i64) (W := wr.drewN nq) hrow x (wrap64 (rdOf 0 o x + c x))).1
   have hb2 : Below w.heap.size w ((wr.drewN nq).setCell ⟨w.heap.size, x.toNat, none⟩ (Value.int .i64 (wrap64 (rdOf 0 o x + c x)))) := (below_dn HB.out nq).setCell (p := ⟨w.heap.size, x.toNat, none⟩) (Nat.le_refl _) _
   obtain rfl : x = 0 := by omega
   rw [show wrap64 ((0 : Int) - 1) = -1 from by unfold wrap64; omega]
   refine ⟨⟨-1, rfl, ⟨by omega, by omega⟩, ⟨_, by simpa using ho, hst, ?_⟩, ⟨hb2⟩⟩, by decide⟩
   rw [← hsz]
   rfl
  have hx1b := decide_eq_true hx1
  gi_wp2
  obtain ⟨ho, hrow, hsz, _⟩ := HR.out
  have hst := (own_store_of (enc := Value.int .i64) (W := wr.drewN nq) hrow x (wrap64 (rdOf 0 o x + c x))).1
  have hb2 : Below w.heap.size w ((wr.drewN nq).setCell ⟨w.heap.size, x.toNat, none⟩ (Value.int .i64 (wrap64 (rdOf 0 o x + c x)))) := (below_dn HB.out nq).setCell (p := ⟨w.heap.size, x.toNat, none⟩) (Nat.le_refl _) _
  obtain ⟨W2, hW2⟩ : ∃ W2, (wr.drewN nq).setCell ⟨w.heap.size, x.toNat, none⟩ (Value.int .i64 (wrap64 (rdOf 0 o x + c x))) = W2 := ⟨_, rfl⟩
  obtain ⟨o1, ho1⟩ : ∃ o1, o1 = o.set x.toNat (wrap64 (rdOf 0 o x + c x)) := ⟨_, rfl⟩
  rw [hW2] at hst hb2 ⊢
  rw [← ho1] at hst
  have hX := HR.out.2.2.2
  have hpx := HPP.out x hX (of_eq_true hlt)
  obtain ⟨ad, A2, c2, e0, g0, g1, g2, g3, hl2, hi2⟩ := at_T33 HC.out x hX (of_eq_true hlt)
  cases e0
  replace g1 := (hb2.cell (World.block_lt_of_cell? w _ g1)).trans g1
  have hp0 : 0 ≤ (rd_T33 l0 x).f1 := by omega
  have hp1 : (rd_T33 l0 x).f1 < (l0.length : Int) := by have := of_eq_true hlt; omega
  obtain ⟨hc1, hf1⟩ := own_at_of (d := (0 : Int)) hst x hX (of_eq_true hlt)
  obtain ⟨hc2, hf2⟩ := own_at_of (d := (0 : Int)) hst (rd_T33 l0 x).f1 hp0 hp1
  have HS := a_ (And.intro hst (And.intro hb2 (And.intro ho1 (And.intro hp0 (And.intro hp1 hx1)))))
  clear hst hb2 hW2 ho1 hpx g0 g2 g3 hl2 hi2 hcx hfx ho hrow hsz hX hx1 hx1b
  replace hp0 := eq_true hp0
  replace hp1 := eq_true hp1
  refine wpIn_region_head 14 rfl hmix (by kernel_rfl) ?_
  simp only [List.take_succ_cons, List.take_zero, List.drop_succ_cons, List.drop_zero]
  iterate 14 (quiet_step_in (fail))
  refine wpQuietIn_nil ?_
  intro _ hw'
  obtain ⟨nq2, hw''⟩ := hw'
  subst hw''
  gi_wp2
  obtain ⟨hst, hb2, ho1, hp0', hp1', hx1'⟩ := HS.out
  obtain ⟨ho, hrow, hsz, hX⟩ := HR.out
  have hw1 : wrap64 (x - 1) = x - 1 := by have := HX.out; unfold wrap64; omega
  rw [hw1]
  refine ⟨⟨x - 1, rfl, ⟨by omega, by have := HX.out; omega⟩, ⟨_, by rw [List.length_set, ho1, List.length_set]; exact ho, (own_store_of (enc := Value.int .i64) (W := W2.drewN nq2) hst (rd_T33 l0 x).f1 _).1, ?_⟩, ⟨(below_dn hb2 nq2).setCell (p := ⟨w.heap.size, (rd_T33 l0 x).f1.toNat, none⟩) (Nat.le_refl _) _⟩⟩, by simp only [intOf]; omega⟩
  rw [← hsz, show (x + 1).toNat = x.toNat + 1 by omega, show (x - 1 + 1).toNat = x.toNat by omega, sizesL]
  simp only [show ((x.toNat : Nat) : Int) = x by omega]
  rw [if_pos (show 0 < x.toNat by omega), ho1]
  rfl
end

end Go.Proofs.YtgokcaccamfgfaaDoor.G
end
