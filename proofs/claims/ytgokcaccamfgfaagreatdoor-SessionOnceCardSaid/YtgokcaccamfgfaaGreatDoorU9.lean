/- Parts of this proof, one behind the other: G36, G37. -/
import Derived.Test.YtgokcaccamfgfaaGreatDoorU2
import Derived.Test.YtgokcaccamfgfaaGreatDoorG0
import Derived.Test.YtgokcaccamfgfaaGreatDoorU8
section
-- Laid by the session's own driver gp.py over the kit's printer. Not trusted: Lean checks it.
namespace Go.Proofs.YtgokcaccamfgfaaGreatDoor.G
open Go.RowKit Go.Proofs.YtgokcaccamfgfaaGreatDoorW.PrintWords Go.Proofs.YtgokcaccamfgfaaGreatDoorW.PrintLast Go.Proofs.YtgokcaccamfgfaaGreatDoorW.PrintMore
set_option maxHeartbeats 8000000
set_option maxRecDepth 100000
attribute [local go_sem] max2_int min2_int max_two min_two max_three min_three max_four min_four   -- for this text's walks alone
set_option linter.unusedVariables false
set_option linter.unusedSimpArgs false

def sleuthref12_verdict.l0 : Nat → List Int → Int → List Int → Int → Option (Int × Int)
 | 0, _, _, _, _ => none
 | k + 1, x1, x2, x7, x8 => if x8 < (x7.length : Int) then (if 0 ≤ x8 then (if 0 ≤ (rd x7 x8) then (if (rd x7 x8) < (x1.length : Int) then (if (rd x1 (rd x7 x8)) = 1 then (sleuthref12_verdict.l0 k x1 x2 x7 (wrap64 (x8 + 1))) else (some (3, 0))) else (none)) else (none)) else (none)) else (some (1, x2))
def sleuthref12_verdict.f (k : Nat) (l0 : List (S64)) (l1 : List Int) (a2 : Int) : Option (Int × Int) := (sleuthref12_kids.f k l0 a2).bind fun t337 => (sleuthref12_verdict.l0 k l1 a2 t337 0)
theorem sleuthref12_verdict.mono_l : ∀ k, (∀ y0 y1 y2 y3, LeO (sleuthref12_verdict.l0 k y0 y1 y2 y3) (sleuthref12_verdict.l0 (k + 1) y0 y1 y2 y3))
 | 0 => fun _ _ _ _ r h => by simp [sleuthref12_verdict.l0] at h
 | k + 1 => by
  have ih0 := sleuthref12_verdict.mono_l k
  · intro y0 y1 y2 y3
    unfold sleuthref12_verdict.l0
    repeat' first
    | (with_reducible exact ih0 _ _ _ _)
    | (with_reducible exact sleuthref12_kids.mono _ _ _)
    | (with_reducible exact LeO.refl _)
    | (with_reducible exact LeO.none _)
    | (with_reducible refine LeO.ite ?_ ?_)
    | (with_reducible refine LeO.bind ?_ (fun _ => ?_))
    | exact ih0 _ _ _ _
    | exact sleuthref12_kids.mono _ _ _
    | exact LeO.none _
    | refine LeO.ite ?_ ?_
    | refine LeO.bind ?_ (fun _ => ?_)
theorem sleuthref12_verdict.mono : ∀ a0 a1 a2 k, LeO (sleuthref12_verdict.f k a0 a1 a2) (sleuthref12_verdict.f (k + 1) a0 a1 a2) := by
 intro a0 a1 a2 k
 have ih0 := sleuthref12_verdict.mono_l k
 unfold sleuthref12_verdict.f
 repeat' first
  | (with_reducible exact ih0 _ _ _ _)
  | (with_reducible exact sleuthref12_kids.mono _ _ _)
  | (with_reducible exact LeO.refl _)
  | (with_reducible exact LeO.none _)
  | (with_reducible refine LeO.ite ?_ ?_)
  | (with_reducible refine LeO.bind ?_ (fun _ => ?_))
  | exact ih0 _ _ _ _
  | exact sleuthref12_kids.mono _ _ _
  | exact LeO.none _
  | refine LeO.ite ?_ ?_
  | refine LeO.bind ?_ (fun _ => ?_)
theorem sleuthref12_verdict.calls (k : Nat) (A0 : Option Addr) (c0 : Nat) (l0 : List (S64)) (A1 : Option Addr) (c1 : Nat) (l1 : List Int) (a2 : Int) (r1 : Int) (r2 : Int) (w : World) (hr0 : Kd.C k64 w A0 l0.length l0) (hc0 : l0.length ≤ c0) (hr1 : Kd.C (Kd.int .i64) w A1 l1.length l1) (hc1 : l1.length ≤ c1) (h : sleuthref12_verdict.f k l0 l1 a2 = some (r1, r2)) :
 Calls Tryz.prog 65 #[.slice A0 l0.length c0, .slice A1 l1.length c1, .int .i64 a2] w fun e w' => e = .returned (.agg #[.int .i64 r1, .int .i64 r2]) ∧ Below w.heap.size w w' := by
 have hu34 := Tryz.underlying34
 have HR0 := a_ hr0
 have HC0 := a_ hc0
 clear hr0 hc0
 have HR1 := a_ hr1
 have HC1 := a_ hc1
 clear hr1 hc1
 have HB := a_ (Below.refl w.heap.size w)
 have H : ((sleuthref12_kids.f k l0 a2).bind fun t337 => (sleuthref12_verdict.l0 k l1 a2 t337 0)) = some (r1, r2) := h
 clear h
 replace H := Option.bind_eq_some_iff.mp H
 obtain ⟨t337, A40, H⟩ := H
 replace H : (sleuthref12_verdict.l0 k l1 a2 t337 0) = some (r1, r2) := H
 have A4 := a_ A40
 clear A40
 have H' := a_ H
 clear H
 go_enter Tryz.func65, Tryz.ntmps65
 go_wp2_with (first | ((with_reducible refine gate_dst (N := 6) rfl ?_); refine boxE_ 6 #[.int .i64 0, .int .i64 0] 34 ?_; intro gb336 hg w5 hbox hb; have BK336 := a_ (hbox); have GW336 := a_ ((gE_ hg : w.heap.size ≤ gb336)); have GE336 := a_ ((gE_ hg : w.heap.size ≤ gb336)); replace HB := a_ (below_step hB_ hb); clear hb hbox hg) | ((with_reducible refine gate_callee (f := 63) rfl ?_); refine goesL_ (some 11) rfl rfl Tryz.func63 (by kernel_rfl) rfl #[.slice A0 l0.length c0, .int .i64 a2] rfl hL_ ?_; (with_reducible refine (sleuthref12_kids.calls k _ _ l0 a2 t337 _ ?side1 ?side2 A4.out).mono ?_); (case side1 => exact cB_ HR0.out); (case side2 => exact HC0.out); rintro e w6 ⟨v338, rfl, ho0, hb⟩; refine ⟨_, rfl, ?_⟩; have HO339 := a_ (Kd.R_lower ho0 (below_size hC_)); replace BK336 := a_ (bB_ BK336.out hb); replace HB := a_ (below_step hC_ hb); (try clear hb); (try clear hb2); (try clear hk); (try clear hi); (try clear ho0)))
 (try simp only [Act.put, List.setIfInBounds_toArray, List.set_cons_zero, List.set_cons_succ])
 go_loopg [8] k (fun kq v8 w' => ∃ (x8_1 : Int) (x337000_1 : Int) (x337001_1 : Int), v8 = .int .i64 x8_1 ∧ Aside0 (sleuthref12_verdict.l0 kq l1 a2 t337 x8_1 = some (r1, r2)) ∧ Aside0 (kq ≤ k) ∧ Aside0 (Kd.R (Kd.int .i64) 3 w' w.heap.size (fun _ => True) v338 t337) ∧ Aside0 (w'.heap[gb336]? = some (.cells #[.int .i64 x337000_1, .int .i64 x337001_1] 34 (0, 0))) ∧ Aside0 (Below w.heap.size w w'))
 case atStart => exact ⟨(0), (0), (0), hW_, H', ⟨Nat.le_refl _⟩, ⟨hR_ HO339.out⟩, ⟨(hK_ BK336.out)⟩, ⟨hC_⟩⟩
 case round =>
  clear H'
  try clear c1
  try clear p2
  try clear c6
  obtain ⟨x8_1, x337000_1, x337001_1, rfl, HA, HK1, HO_7, BK336, HB⟩ := hrel
  cases gk with
  | zero => exact absurd HA.out (by simp [sleuthref12_verdict.l0])
  | succ k1 =>
   have H := HA.out
   clear HA
   simp only [sleuthref12_verdict.l0] at H
   by_cases c7 : x8_1 < (t337.length : Int)
   case neg =>
    rw [if_neg c7] at H
    have c7b0 : decide (x8_1 < (t337.length : Int)) = false := decide_eq_false c7
    clear c7
    simp only [Option.some.injEq, Prod.mk.injEq] at H
    obtain ⟨rfl, rfl⟩ := H
    obtain ⟨Ao15, co15, eo15⟩ := Kd.R_slice HO_7.out
    subst eo15
    obtain ⟨hcz16_0, hcz16_1, hfz16_0, hfz16_1⟩ := bx2_ BK336.out
    go_wp2
    refine bodyPost_ret (results_cell_row rfl _ _ gb336 34 #[.int .i64 1, .int .i64 a2] (0, 0) _ rfl (bP_ (bP_ (hK_ BK336.out))) Tryz.underlying34 rfl (by kernel_rfl)) rfl ?_
    exact ⟨hV_, hC_⟩

   rw [if_pos c7] at H
   have c7b0 : decide (x8_1 < (t337.length : Int)) = true := decide_eq_true c7
   clear c7
   replace H := ifI_ H; obtain ⟨c8, H⟩ := H
   have c8b0 : decide (0 ≤ x8_1) = true := decide_eq_true c8
   clear c8
   replace H := ifI_ H; obtain ⟨c9, H⟩ := H
   have c9b0 : decide (0 ≤ (rd t337 x8_1)) = true := decide_eq_true c9
   clear c9
   replace H := ifI_ H; obtain ⟨c10, H⟩ := H
   have c10b0 : decide ((rd t337 x8_1) < (l1.length : Int)) = true := decide_eq_true c10
   clear c10
   by_cases c11 : (rd l1 (rd t337 x8_1)) = 1
   case pos =>
    rw [if_pos c11] at H
    have c11b0 : ((rd l1 (rd t337 x8_1)) == 1) = true := beq_iff_eq.mpr c11
    have c11b1 : ((rd l1 (rd t337 x8_1)) != 1) = false := bne_eq_false_iff_eq.mpr c11
    clear c11
    have H' := a_ H
    clear H
    obtain ⟨Ao12, co12, eo12⟩ := Kd.R_slice HO_7.out
    subst eo12
    have p340 : 0 ≤ (x8_1 : Int) := of_decide_eq_true hA_
    have q340 : x8_1 < (t337.length : Int) := of_decide_eq_true hA_
    obtain ⟨ad340, e340, hx340_0⟩ := Kd.at_int (Kd.R_reads' HO_7.out).2.2 x8_1 p340 q340
    cases e340
    replace p340 := eq_true p340
    replace q340 := eq_true q340
    have p341 : 0 ≤ ((rd t337 x8_1) : Int) := of_decide_eq_true hA_
    have q341 : (rd t337 x8_1) < (l1.length : Int) := of_decide_eq_true hA_
    obtain ⟨ad341, e341, hx341_0⟩ := Kd.at_int HR1.out (rd t337 x8_1) p341 q341
    cases e341
    replace hx341_0 := cl_ HB.out hx341_0
    replace p341 := eq_true p341
    replace q341 := eq_true q341
    go_wp2
    go_roundg k1
    case measure => have := HK1.out; omega
    case rel => exact ⟨(wrap64 (x8_1 + 1)), (x337000_1), (x337001_1), hW_, H', ⟨by have := HK1.out; omega⟩, ⟨hR_ HO_7.out⟩, ⟨(hK_ BK336.out)⟩, ⟨hC_⟩⟩
   rw [if_neg c11] at H
   have c11b0 : ((rd l1 (rd t337 x8_1)) == 1) = false := beq_eq_false_iff_ne.mpr c11
   have c11b1 : ((rd l1 (rd t337 x8_1)) != 1) = true := bne_iff_ne.mpr c11
   simp only [Option.some.injEq, Prod.mk.injEq] at H
   obtain ⟨rfl, rfl⟩ := H
   obtain ⟨Ao13, co13, eo13⟩ := Kd.R_slice HO_7.out
   subst eo13
   have p340 : 0 ≤ (x8_1 : Int) := of_decide_eq_true hA_
   have q340 : x8_1 < (t337.length : Int) := of_decide_eq_true hA_
   obtain ⟨ad340, e340, hx340_0⟩ := Kd.at_int (Kd.R_reads' HO_7.out).2.2 x8_1 p340 q340
   cases e340
   replace p340 := eq_true p340
   replace q340 := eq_true q340
   have p341 : 0 ≤ ((rd t337 x8_1) : Int) := of_decide_eq_true hA_
   have q341 : (rd t337 x8_1) < (l1.length : Int) := of_decide_eq_true hA_
   obtain ⟨ad341, e341, hx341_0⟩ := Kd.at_int HR1.out (rd t337 x8_1) p341 q341
   cases e341
   replace hx341_0 := cl_ HB.out hx341_0
   replace p341 := eq_true p341
   replace q341 := eq_true q341
   obtain ⟨hcz14_0, hcz14_1, hfz14_0, hfz14_1⟩ := bx2_ BK336.out
   go_wp2
   refine bodyPost_ret (results_cell_row rfl _ _ gb336 34 #[.int .i64 3, .int .i64 0] (0, 0) _ rfl (bP_ (bP_ (hK_ BK336.out))) Tryz.underlying34 rfl (by kernel_rfl)) rfl ?_
   exact ⟨hV_, hC_⟩
end Go.Proofs.YtgokcaccamfgfaaGreatDoor.G
end
section
-- Laid by the session's own driver gp.py over the kit's printer. Not trusted: Lean checks it.
namespace Go.Proofs.YtgokcaccamfgfaaGreatDoor.G
open Go.RowKit Go.Proofs.YtgokcaccamfgfaaGreatDoorW.PrintWords Go.Proofs.YtgokcaccamfgfaaGreatDoorW.PrintLast Go.Proofs.YtgokcaccamfgfaaGreatDoorW.PrintMore
set_option maxHeartbeats 8000000
set_option maxRecDepth 100000
attribute [local go_sem] max2_int min2_int max_two min_two max_three min_three max_four min_four   -- for this text's walks alone
set_option linter.unusedVariables false
set_option linter.unusedSimpArgs false

def sleuthref12_topDown.l0 : Nat → List (S64) → List Int → Int → Option (Int × Int)
 | 0, _, _, _ => none
 | k + 1, x0, x1, x5 => (sleuthref12_kids.f k x0 x5).bind fun t347 => ((sleuthref12_firstOf.f k t347 x1 2).bind fun t350 => (if t350 < 0 then ((sleuthref12_kids.f k x0 x5).bind fun t351 => ((sleuthref12_firstOf.f k t351 x1 0).bind fun t354 => (if t354 ≥ 0 then (some (0, t354)) else ((sleuthref12_verdict.f k x0 x1 x5).bind fun bt355 => (some (bt355.1, bt355.2)))))) else (sleuthref12_topDown.l0 k x0 x1 t350)))
def sleuthref12_topDown.f (k : Nat) (l0 : List (S64)) (l1 : List Int) : Option (Int × Int) := if 0 < (l1.length : Int) then (if (rd l1 0) = 2 then (sleuthref12_topDown.l0 k l0 l1 0) else ((sleuthref12_rooted.f (rd l1 0)).bind fun bt345 => (some (bt345.1, bt345.2)))) else (none)
theorem sleuthref12_topDown.mono_l : ∀ k, (∀ y0 y1 y2, LeO (sleuthref12_topDown.l0 k y0 y1 y2) (sleuthref12_topDown.l0 (k + 1) y0 y1 y2))
 | 0 => fun _ _ _ r h => by simp [sleuthref12_topDown.l0] at h
 | k + 1 => by
  have ih0 := sleuthref12_topDown.mono_l k
  · intro y0 y1 y2
    unfold sleuthref12_topDown.l0
    repeat' first
    | (with_reducible exact ih0 _ _ _)
    | (with_reducible exact sleuthref12_firstOf.mono _ _ _ _)
    | (with_reducible exact sleuthref12_kids.mono _ _ _)
    | (with_reducible exact sleuthref12_verdict.mono _ _ _ _)
    | (with_reducible exact LeO.refl _)
    | (with_reducible exact LeO.none _)
    | (with_reducible refine LeO.ite ?_ ?_)
    | (with_reducible refine LeO.bind ?_ (fun _ => ?_))
    | exact ih0 _ _ _
    | exact sleuthref12_firstOf.mono _ _ _ _
    | exact sleuthref12_kids.mono _ _ _
    | exact sleuthref12_verdict.mono _ _ _ _
    | exact LeO.none _
    | refine LeO.ite ?_ ?_
    | refine LeO.bind ?_ (fun _ => ?_)
theorem sleuthref12_topDown.mono : ∀ a0 a1 k, LeO (sleuthref12_topDown.f k a0 a1) (sleuthref12_topDown.f (k + 1) a0 a1) := by
 intro a0 a1 k
 have ih0 := sleuthref12_topDown.mono_l k
 unfold sleuthref12_topDown.f
 repeat' first
  | (with_reducible exact ih0 _ _ _)
  | (with_reducible exact sleuthref12_firstOf.mono _ _ _ _)
  | (with_reducible exact sleuthref12_kids.mono _ _ _)
  | (with_reducible exact sleuthref12_verdict.mono _ _ _ _)
  | (with_reducible exact LeO.refl _)
  | (with_reducible exact LeO.none _)
  | (with_reducible refine LeO.ite ?_ ?_)
  | (with_reducible refine LeO.bind ?_ (fun _ => ?_))
  | exact ih0 _ _ _
  | exact sleuthref12_firstOf.mono _ _ _ _
  | exact sleuthref12_kids.mono _ _ _
  | exact sleuthref12_verdict.mono _ _ _ _
  | exact LeO.none _
  | refine LeO.ite ?_ ?_
  | refine LeO.bind ?_ (fun _ => ?_)
theorem sleuthref12_topDown.calls (k : Nat) (A0 : Option Addr) (c0 : Nat) (l0 : List (S64)) (A1 : Option Addr) (c1 : Nat) (l1 : List Int) (r1 : Int) (r2 : Int) (w : World) (hr0 : Kd.C k64 w A0 l0.length l0) (hc0 : l0.length ≤ c0) (hr1 : Kd.C (Kd.int .i64) w A1 l1.length l1) (hc1 : l1.length ≤ c1) (h : sleuthref12_topDown.f k l0 l1 = some (r1, r2)) :
 Calls Tryz.prog 45 #[.slice A0 l0.length c0, .slice A1 l1.length c1] w fun e w' => e = .returned (.agg #[.int .i64 r1, .int .i64 r2]) ∧ Below w.heap.size w w' := by
 have hu34 := Tryz.underlying34
 have HR0 := a_ hr0
 have HC0 := a_ hc0
 clear hr0 hc0
 have HR1 := a_ hr1
 have HC1 := a_ hc1
 clear hr1 hc1
 have HB := a_ (Below.refl w.heap.size w)
 have H : (if 0 < (l1.length : Int) then (if (rd l1 0) = 2 then (sleuthref12_topDown.l0 k l0 l1 0) else ((sleuthref12_rooted.f (rd l1 0)).bind fun bt345 => (some (bt345.1, bt345.2)))) else (none)) = some (r1, r2) := h
 clear h
 replace H := ifI_ H; obtain ⟨c3, H⟩ := H
 have c3b0 : decide (0 < (l1.length : Int)) = true := decide_eq_true c3
 have c3b1 : decide (0 < l1.length) = true := decide_eq_true (by omega)
 clear c3
 by_cases c4 : (rd l1 0) = 2
 case neg =>
  rw [if_neg c4] at H
  have c4b0 : ((rd l1 0) == 2) = false := beq_eq_false_iff_ne.mpr c4
  have c4b1 : ((rd l1 0) != 2) = true := bne_iff_ne.mpr c4
  replace H := Option.bind_eq_some_iff.mp H
  obtain ⟨⟨t345, t346⟩, A260, H⟩ := H
  replace H : (some (t345, t346)) = some (r1, r2) := H
  have A26 := a_ A260
  clear A260
  simp only [Option.some.injEq, Prod.mk.injEq] at H
  obtain ⟨rfl, rfl⟩ := H
  go_enter Tryz.func45, Tryz.ntmps45
  go_wp2_with (first | ((with_reducible refine gate_dst (N := 4) rfl ?_); refine boxE_ 4 #[.int .i64 0, .int .i64 0] 34 ?_; intro gb342 hg w27 hbox hb; have BK342 := a_ (hbox); have GW342 := a_ ((gE_ hg : w.heap.size ≤ gb342)); have GE342 := a_ ((gE_ hg : w.heap.size ≤ gb342)); replace HB := a_ (below_step hB_ hb); clear hb hbox hg; have p343 : 0 ≤ (0 : Int) := (by omega); have q343 : 0 < (l1.length : Int) := of_decide_eq_true hA_; obtain ⟨ad343, e343, hx343_0⟩ := Kd.at_int HR1.out 0 p343 q343; cases e343; have qi343 : (0 < l1.length) = True := eq_true (by omega); (try rw [show ((0 : Int)).toNat = 0 from rfl] at hx343_0); (try rw [Addr.add_zero'] at hx343_0); replace hx343_0 := cl_ HB.out hx343_0; replace p343 := eq_true p343; replace q343 := eq_true q343; have p344 : 0 ≤ (0 : Int) := (by omega); have q344 : 0 < (l1.length : Int) := of_decide_eq_true hA_; obtain ⟨ad344, e344, hx344_0⟩ := Kd.at_int HR1.out 0 p344 q344; obtain rfl : ad343 = ad344 := (by injection e344); have qi344 : (0 < l1.length) = True := eq_true (by omega); (try rw [show ((0 : Int)).toNat = 0 from rfl] at hx344_0); (try rw [Addr.add_zero'] at hx344_0); replace hx344_0 := cl_ HB.out hx344_0; replace p344 := eq_true p344; replace q344 := eq_true q344) | ((with_reducible refine gate_callee (f := 62) rfl ?_); refine goesL_ (some 16) rfl rfl Tryz.func62 (by kernel_rfl) rfl #[.int .i64 (rd l1 0)] rfl hL_ ?_; (with_reducible refine (sleuthref12_rooted.calls (rd l1 0) t345 t346 _ A26.out).mono ?_); rintro e w28 ⟨rfl, hb⟩; refine ⟨_, rfl, ?_⟩; replace BK342 := a_ (bB_ BK342.out hb); replace HB := a_ (below_step hC_ hb); (try clear hb); (try clear hb2); (try clear hk); (try clear hi); obtain ⟨hcz29_0, hcz29_1, hfz29_0, hfz29_1⟩ := bx2_ BK342.out))
  refine bodyPost_ret (results_cell_row rfl _ _ gb342 34 #[.int .i64 t345, .int .i64 t346] (0, 0) _ rfl (bP_ (bP_ (hK_ BK342.out))) Tryz.underlying34 rfl (by kernel_rfl)) rfl ?_
  exact ⟨hV_, hC_⟩
 rw [if_pos c4] at H
 have c4b0 : ((rd l1 0) == 2) = true := beq_iff_eq.mpr c4
 have c4b1 : ((rd l1 0) != 2) = false := bne_eq_false_iff_eq.mpr c4
 clear c4
 have H' := a_ H
 clear H
 go_enter Tryz.func45, Tryz.ntmps45
 go_wp2_with (first | ((with_reducible refine gate_dst (N := 4) rfl ?_); refine boxE_ 4 #[.int .i64 0, .int .i64 0] 34 ?_; intro gb342 hg w5 hbox hb; have BK342 := a_ (hbox); have GW342 := a_ ((gE_ hg : w.heap.size ≤ gb342)); have GE342 := a_ ((gE_ hg : w.heap.size ≤ gb342)); replace HB := a_ (below_step hB_ hb); clear hb hbox hg; have p343 : 0 ≤ (0 : Int) := (by omega); have q343 : 0 < (l1.length : Int) := of_decide_eq_true hA_; obtain ⟨ad343, e343, hx343_0⟩ := Kd.at_int HR1.out 0 p343 q343; cases e343; have qi343 : (0 < l1.length) = True := eq_true (by omega); (try rw [show ((0 : Int)).toNat = 0 from rfl] at hx343_0); (try rw [Addr.add_zero'] at hx343_0); replace hx343_0 := cl_ HB.out hx343_0; replace p343 := eq_true p343; replace q343 := eq_true q343))
 (try simp only [Act.put, List.setIfInBounds_toArray, List.set_cons_zero, List.set_cons_succ])
 go_loopg [5] k (fun kq v5 w' => ∃ (x5_1 : Int), v5 = .int .i64 x5_1 ∧ Aside0 (sleuthref12_topDown.l0 kq l0 l1 x5_1 = some (r1, r2)) ∧ Aside0 (kq ≤ k) ∧ Aside0 (w'.heap[gb342]? = some (.cells #[.int .i64 0, .int .i64 0] 34 (0, 0))) ∧ Aside0 (Below w.heap.size w w'))
 case atStart => exact ⟨(0), hW_, H', ⟨Nat.le_refl _⟩, ⟨(hK_ BK342.out)⟩, ⟨hC_⟩⟩
 case round =>
  clear H'
  try clear c1
  try clear p2
  try clear c3
  try clear c3b0
  try clear c3b1
  try clear p3
  try clear q3
  try clear hx3
  try clear qi3
  try clear c4
  try clear c4b0
  try clear c4b1
  try clear hx343_0
  try clear p343
  try clear q343
  obtain ⟨x5_1, rfl, HA, HK1, BK342, HB⟩ := hrel
  cases gk with
  | zero => exact absurd HA.out (by simp [sleuthref12_topDown.l0])
  | succ k1 =>
   have H := HA.out
   clear HA
   simp only [sleuthref12_topDown.l0] at H
   replace H := Option.bind_eq_some_iff.mp H
   obtain ⟨t347, A60, H⟩ := H
   replace H : ((sleuthref12_firstOf.f k1 t347 l1 2).bind fun t350 => (if t350 < 0 then ((sleuthref12_kids.f k1 l0 x5_1).bind fun t351 => ((sleuthref12_firstOf.f k1 t351 l1 0).bind fun t354 => (if t354 ≥ 0 then (some (0, t354)) else ((sleuthref12_verdict.f k1 l0 l1 x5_1).bind fun bt355 => (some (bt355.1, bt355.2)))))) else (sleuthref12_topDown.l0 k1 l0 l1 t350))) = some (r1, r2) := H
   have A6 := a_ A60
   clear A60
   replace H := Option.bind_eq_some_iff.mp H
   obtain ⟨t350, A70, H⟩ := H
   replace H : (if t350 < 0 then ((sleuthref12_kids.f k1 l0 x5_1).bind fun t351 => ((sleuthref12_firstOf.f k1 t351 l1 0).bind fun t354 => (if t354 ≥ 0 then (some (0, t354)) else ((sleuthref12_verdict.f k1 l0 l1 x5_1).bind fun bt355 => (some (bt355.1, bt355.2)))))) else (sleuthref12_topDown.l0 k1 l0 l1 t350)) = some (r1, r2) := H
   have A7 := a_ A70
   clear A70
   by_cases c8 : t350 < 0
   case neg =>
    rw [if_neg c8] at H
    have c8b0 : decide (t350 < 0) = false := decide_eq_false c8
    clear c8
    have H' := a_ H
    clear H
    go_wp2_with (first | ((with_reducible refine gate_callee (f := 63) rfl ?_); refine goesL_ (some 19) rfl rfl Tryz.func63 (by kernel_rfl) rfl #[.slice A0 l0.length c0, .int .i64 x5_1] rfl hL_ ?_; (with_reducible refine (sleuthref12_kids.calls k1 _ _ l0 x5_1 t347 _ ?side1 ?side2 A6.out).mono ?_); (case side1 => exact cB_ HR0.out); (case side2 => exact HC0.out); rintro e w24 ⟨v348, rfl, ho0, hb⟩; refine ⟨_, rfl, ?_⟩; have HO349 := a_ (Kd.R_lower ho0 (below_size hC_)); replace BK342 := a_ (bB_ BK342.out hb); replace HB := a_ (below_step hC_ hb); (try clear hb); (try clear hb2); (try clear hk); (try clear hi); (try clear ho0); obtain ⟨Ao25, co25, eo25⟩ := Kd.R_slice HO349.out; subst eo25) | ((with_reducible refine gate_callee (f := 64) rfl ?_); refine goesL_ (some 22) rfl rfl Tryz.func64 (by kernel_rfl) rfl #[.slice Ao25 t347.length co25, .slice (some ad343) l1.length c1, .int .i64 2] rfl hL_ ?_; (with_reducible refine (sleuthref12_firstOf.calls k1 _ _ t347 _ _ l1 2 t350 _ ?side1 ?side2 ?side3 ?side4 A7.out).mono ?_); (case side1 => exact cC_ (Kd.R_reads' HO349.out).2.2); (case side2 => exact (Kd.R_reads' HO349.out).2.1); (case side3 => exact cB_ HR1.out); (case side4 => exact HC1.out); rintro e w' ⟨rfl, ⟨nd, rfl⟩⟩; refine ⟨_, rfl, ?_⟩))
    go_roundg k1
    case measure => have := HK1.out; omega
    case rel => exact ⟨(t350), hW_, H', ⟨by have := HK1.out; omega⟩, ⟨(hK_ BK342.out)⟩, ⟨hC_⟩⟩
   rw [if_pos c8] at H
   have c8b0 : decide (t350 < 0) = true := decide_eq_true c8
   clear c8
   replace H := Option.bind_eq_some_iff.mp H
   obtain ⟨t351, A90, H⟩ := H
   replace H : ((sleuthref12_firstOf.f k1 t351 l1 0).bind fun t354 => (if t354 ≥ 0 then (some (0, t354)) else ((sleuthref12_verdict.f k1 l0 l1 x5_1).bind fun bt355 => (some (bt355.1, bt355.2))))) = some (r1, r2) := H
   have A9 := a_ A90
   clear A90
   replace H := Option.bind_eq_some_iff.mp H
   obtain ⟨t354, A100, H⟩ := H
   replace H : (if t354 ≥ 0 then (some (0, t354)) else ((sleuthref12_verdict.f k1 l0 l1 x5_1).bind fun bt355 => (some (bt355.1, bt355.2)))) = some (r1, r2) := H
   have A10 := a_ A100
   clear A100
   by_cases c11 : t354 ≥ 0
   case pos =>
    rw [if_pos c11] at H
    have c11b0 : decide (0 ≤ t354) = true := decide_eq_true c11
    clear c11
    simp only [Option.some.injEq, Prod.mk.injEq] at H
    obtain ⟨rfl, rfl⟩ := H
    go_wp2_with (first | ((with_reducible refine gate_callee (f := 63) rfl ?_); refine goesL_ (some 19) rfl rfl Tryz.func63 (by kernel_rfl) rfl #[.slice A0 l0.length c0, .int .i64 x5_1] rfl hL_ ?_; (with_reducible refine (sleuthref12_kids.calls k1 _ _ l0 x5_1 t347 _ ?side1 ?side2 A6.out).mono ?_); (case side1 => exact cB_ HR0.out); (case side2 => exact HC0.out); rintro e w12 ⟨v348, rfl, ho0, hb⟩; refine ⟨_, rfl, ?_⟩; have HO349 := a_ (Kd.R_lower ho0 (below_size hC_)); replace BK342 := a_ (bB_ BK342.out hb); replace HB := a_ (below_step hC_ hb); (try clear hb); (try clear hb2); (try clear hk); (try clear hi); (try clear ho0); obtain ⟨Ao13, co13, eo13⟩ := Kd.R_slice HO349.out; subst eo13) | ((with_reducible refine gate_callee (f := 64) rfl ?_); refine goesL_ (some 22) rfl rfl Tryz.func64 (by kernel_rfl) rfl #[.slice Ao13 t347.length co13, .slice (some ad343) l1.length c1, .int .i64 2] rfl hL_ ?_; (with_reducible refine (sleuthref12_firstOf.calls k1 _ _ t347 _ _ l1 2 t350 _ ?side1 ?side2 ?side3 ?side4 A7.out).mono ?_); (case side1 => exact cC_ (Kd.R_reads' HO349.out).2.2); (case side2 => exact (Kd.R_reads' HO349.out).2.1); (case side3 => exact cB_ HR1.out); (case side4 => exact HC1.out); rintro e w' ⟨rfl, ⟨nd, rfl⟩⟩; refine ⟨_, rfl, ?_⟩; (try (rw [drewN_self w12]; generalize hq_ : World.drewN w12 _ = w12; replace HO349 : Aside0 (Kd.R (Kd.int .i64) 3 w12 w.heap.size (fun _ => True) (.slice Ao13 t347.length co13) t347) := ⟨by rw [← hq_]; exact (hR_ HO349.out)⟩; replace BK342 : Aside0 (w12.heap[gb342]? = some (.cells #[.int .i64 0, .int .i64 0] 34 (0, 0))) := ⟨by rw [← hq_]; exact (hK_ BK342.out)⟩; replace HB : Aside0 (Below w.heap.size w w12) := ⟨by rw [← hq_]; exact hC_⟩; clear hq_; (try have hcu0_0 := bc0_ BK342.out); (try have hfu0_0 := blk_frozen BK342.out 0); (try have hcu0_1 := bc1_ BK342.out); (try have hfu0_1 := blk_frozen BK342.out 1)))) | ((with_reducible refine gate_callee (f := 63) rfl ?_); refine goesL_ (some 28) rfl rfl Tryz.func63 (by kernel_rfl) rfl #[.slice A0 l0.length c0, .int .i64 x5_1] rfl hL_ ?_; (with_reducible refine (sleuthref12_kids.calls k1 _ _ l0 x5_1 t351 _ ?side1 ?side2 A9.out).mono ?_); (case side1 => exact cB_ HR0.out); (case side2 => exact HC0.out); rintro e w14 ⟨v352, rfl, ho0, hb⟩; refine ⟨_, rfl, ?_⟩; have HO353 := a_ (Kd.R_lower (Kd.R_new' ho0 (Kd.R_lt (hR_ HO349.out))) (below_size hC_)); replace HO349 := a_ (Kd.R_elder' (hR_ HO349.out) (Kd.R_base ho0) hb); replace BK342 := a_ (bB_ BK342.out hb); replace HB := a_ (below_step hC_ hb); (try clear hb); (try clear hb2); (try clear hk); (try clear hi); (try clear ho0); obtain ⟨Ao15, co15, eo15⟩ := Kd.R_slice HO353.out; subst eo15) | ((with_reducible refine gate_callee (f := 64) rfl ?_); refine goesL_ (some 30) rfl rfl Tryz.func64 (by kernel_rfl) rfl #[.slice Ao15 t351.length co15, .slice (some ad343) l1.length c1, .int .i64 0] rfl hL_ ?_; (with_reducible refine (sleuthref12_firstOf.calls k1 _ _ t351 _ _ l1 0 t354 _ ?side1 ?side2 ?side3 ?side4 A10.out).mono ?_); (case side1 => exact cC_ (Kd.R_reads' HO353.out).2.2); (case side2 => exact (Kd.R_reads' HO353.out).2.1); (case side3 => exact cB_ HR1.out); (case side4 => exact HC1.out); rintro e w' ⟨rfl, ⟨nd, rfl⟩⟩; refine ⟨_, rfl, ?_⟩; (try (rw [drewN_self w14]; generalize hq_ : World.drewN w14 _ = w14; replace HO349 : Aside0 (Kd.R (Kd.int .i64) 3 w14 w.heap.size (fun k_ => some k_ ≠ (.slice Ao15 t351.length co15 : Value).ownBlock) (.slice Ao13 t347.length co13) t347) := ⟨by rw [← hq_]; exact (by (with_reducible repeat (first | apply Kd.R_alloc | apply Kd.R_drewN | apply Kd.R_drew)); exact Kd.R_mono HO349.out (fun _ hk => hk.2))⟩; replace HO353 : Aside0 (Kd.R (Kd.int .i64) 3 w14 w.heap.size (fun k_ => some k_ ≠ (.slice Ao13 t347.length co13 : Value).ownBlock) (.slice Ao15 t351.length co15) t351) := ⟨by rw [← hq_]; exact (by (with_reducible repeat (first | apply Kd.R_alloc | apply Kd.R_drewN | apply Kd.R_drew)); exact Kd.R_mono HO353.out (fun _ hk => hk.2))⟩; replace BK342 : Aside0 (w14.heap[gb342]? = some (.cells #[.int .i64 0, .int .i64 0] 34 (0, 0))) := ⟨by rw [← hq_]; exact (hK_ BK342.out)⟩; replace HB : Aside0 (Below w.heap.size w w14) := ⟨by rw [← hq_]; exact hC_⟩; clear hq_; (try have hcu0_0 := bc0_ BK342.out); (try have hfu0_0 := blk_frozen BK342.out 0); (try have hcu0_1 := bc1_ BK342.out); (try have hfu0_1 := blk_frozen BK342.out 1))); obtain ⟨hcz16_0, hcz16_1, hfz16_0, hfz16_1⟩ := bx2_ BK342.out))
    refine bodyPost_ret (results_cell_row rfl _ _ gb342 34 #[.int .i64 0, .int .i64 t354] (0, 0) _ rfl (bP_ (bP_ (hK_ BK342.out))) Tryz.underlying34 rfl (by kernel_rfl)) rfl ?_
    exact ⟨hV_, hC_⟩
   rw [if_neg c11] at H
   have c11b0 : decide (0 ≤ t354) = false := decide_eq_false c11
   clear c11
   replace H := Option.bind_eq_some_iff.mp H
   obtain ⟨⟨t355, t356⟩, A170, H⟩ := H
   replace H : (some (t355, t356)) = some (r1, r2) := H
   have A17 := a_ A170
   clear A170
   simp only [Option.some.injEq, Prod.mk.injEq] at H
   obtain ⟨rfl, rfl⟩ := H
   go_wp2_with (first | ((with_reducible refine gate_callee (f := 63) rfl ?_); refine goesL_ (some 19) rfl rfl Tryz.func63 (by kernel_rfl) rfl #[.slice A0 l0.length c0, .int .i64 x5_1] rfl hL_ ?_; (with_reducible refine (sleuthref12_kids.calls k1 _ _ l0 x5_1 t347 _ ?side1 ?side2 A6.out).mono ?_); (case side1 => exact cB_ HR0.out); (case side2 => exact HC0.out); rintro e w18 ⟨v348, rfl, ho0, hb⟩; refine ⟨_, rfl, ?_⟩; have HO349 := a_ (Kd.R_lower ho0 (below_size hC_)); replace BK342 := a_ (bB_ BK342.out hb); replace HB := a_ (below_step hC_ hb); (try clear hb); (try clear hb2); (try clear hk); (try clear hi); (try clear ho0); obtain ⟨Ao19, co19, eo19⟩ := Kd.R_slice HO349.out; subst eo19) | ((with_reducible refine gate_callee (f := 64) rfl ?_); refine goesL_ (some 22) rfl rfl Tryz.func64 (by kernel_rfl) rfl #[.slice Ao19 t347.length co19, .slice (some ad343) l1.length c1, .int .i64 2] rfl hL_ ?_; (with_reducible refine (sleuthref12_firstOf.calls k1 _ _ t347 _ _ l1 2 t350 _ ?side1 ?side2 ?side3 ?side4 A7.out).mono ?_); (case side1 => exact cC_ (Kd.R_reads' HO349.out).2.2); (case side2 => exact (Kd.R_reads' HO349.out).2.1); (case side3 => exact cB_ HR1.out); (case side4 => exact HC1.out); rintro e w' ⟨rfl, ⟨nd, rfl⟩⟩; refine ⟨_, rfl, ?_⟩; (try (rw [drewN_self w18]; generalize hq_ : World.drewN w18 _ = w18; replace HO349 : Aside0 (Kd.R (Kd.int .i64) 3 w18 w.heap.size (fun _ => True) (.slice Ao19 t347.length co19) t347) := ⟨by rw [← hq_]; exact (hR_ HO349.out)⟩; replace BK342 : Aside0 (w18.heap[gb342]? = some (.cells #[.int .i64 0, .int .i64 0] 34 (0, 0))) := ⟨by rw [← hq_]; exact (hK_ BK342.out)⟩; replace HB : Aside0 (Below w.heap.size w w18) := ⟨by rw [← hq_]; exact hC_⟩; clear hq_; (try have hcu0_0 := bc0_ BK342.out); (try have hfu0_0 := blk_frozen BK342.out 0); (try have hcu0_1 := bc1_ BK342.out); (try have hfu0_1 := blk_frozen BK342.out 1)))) | ((with_reducible refine gate_callee (f := 63) rfl ?_); refine goesL_ (some 28) rfl rfl Tryz.func63 (by kernel_rfl) rfl #[.slice A0 l0.length c0, .int .i64 x5_1] rfl hL_ ?_; (with_reducible refine (sleuthref12_kids.calls k1 _ _ l0 x5_1 t351 _ ?side1 ?side2 A9.out).mono ?_); (case side1 => exact cB_ HR0.out); (case side2 => exact HC0.out); rintro e w20 ⟨v352, rfl, ho0, hb⟩; refine ⟨_, rfl, ?_⟩; have HO353 := a_ (Kd.R_lower (Kd.R_new' ho0 (Kd.R_lt (hR_ HO349.out))) (below_size hC_)); replace HO349 := a_ (Kd.R_elder' (hR_ HO349.out) (Kd.R_base ho0) hb); replace BK342 := a_ (bB_ BK342.out hb); replace HB := a_ (below_step hC_ hb); (try clear hb); (try clear hb2); (try clear hk); (try clear hi); (try clear ho0); obtain ⟨Ao21, co21, eo21⟩ := Kd.R_slice HO353.out; subst eo21) | ((with_reducible refine gate_callee (f := 64) rfl ?_); refine goesL_ (some 30) rfl rfl Tryz.func64 (by kernel_rfl) rfl #[.slice Ao21 t351.length co21, .slice (some ad343) l1.length c1, .int .i64 0] rfl hL_ ?_; (with_reducible refine (sleuthref12_firstOf.calls k1 _ _ t351 _ _ l1 0 t354 _ ?side1 ?side2 ?side3 ?side4 A10.out).mono ?_); (case side1 => exact cC_ (Kd.R_reads' HO353.out).2.2); (case side2 => exact (Kd.R_reads' HO353.out).2.1); (case side3 => exact cB_ HR1.out); (case side4 => exact HC1.out); rintro e w' ⟨rfl, ⟨nd, rfl⟩⟩; refine ⟨_, rfl, ?_⟩; (try (rw [drewN_self w20]; generalize hq_ : World.drewN w20 _ = w20; replace HO349 : Aside0 (Kd.R (Kd.int .i64) 3 w20 w.heap.size (fun k_ => some k_ ≠ (.slice Ao21 t351.length co21 : Value).ownBlock) (.slice Ao19 t347.length co19) t347) := ⟨by rw [← hq_]; exact (by (with_reducible repeat (first | apply Kd.R_alloc | apply Kd.R_drewN | apply Kd.R_drew)); exact Kd.R_mono HO349.out (fun _ hk => hk.2))⟩; replace HO353 : Aside0 (Kd.R (Kd.int .i64) 3 w20 w.heap.size (fun k_ => some k_ ≠ (.slice Ao19 t347.length co19 : Value).ownBlock) (.slice Ao21 t351.length co21) t351) := ⟨by rw [← hq_]; exact (by (with_reducible repeat (first | apply Kd.R_alloc | apply Kd.R_drewN | apply Kd.R_drew)); exact Kd.R_mono HO353.out (fun _ hk => hk.2))⟩; replace BK342 : Aside0 (w20.heap[gb342]? = some (.cells #[.int .i64 0, .int .i64 0] 34 (0, 0))) := ⟨by rw [← hq_]; exact (hK_ BK342.out)⟩; replace HB : Aside0 (Below w.heap.size w w20) := ⟨by rw [← hq_]; exact hC_⟩; clear hq_; (try have hcu0_0 := bc0_ BK342.out); (try have hfu0_0 := blk_frozen BK342.out 0); (try have hcu0_1 := bc1_ BK342.out); (try have hfu0_1 := blk_frozen BK342.out 1)))) | ((with_reducible refine gate_callee (f := 65) rfl ?_); refine goesL_ (some 38) rfl rfl Tryz.func65 (by kernel_rfl) rfl #[.slice A0 l0.length c0, .slice (some ad343) l1.length c1, .int .i64 x5_1] rfl hL_ ?_; (with_reducible refine (sleuthref12_verdict.calls k1 _ _ l0 _ _ l1 x5_1 t355 t356 _ ?side1 ?side2 ?side3 ?side4 A17.out).mono ?_); (case side1 => exact cB_ HR0.out); (case side2 => exact HC0.out); (case side3 => exact cB_ HR1.out); (case side4 => exact HC1.out); rintro e w22 ⟨rfl, hb⟩; refine ⟨_, rfl, ?_⟩; replace HO349 := a_ (Kd.R_below (hR_ HO349.out) hb); replace HO353 := a_ (Kd.R_below (hR_ HO353.out) hb); replace BK342 := a_ (bB_ BK342.out hb); replace HB := a_ (below_step hC_ hb); (try clear hb); (try clear hb2); (try clear hk); (try clear hi); obtain ⟨hcz23_0, hcz23_1, hfz23_0, hfz23_1⟩ := bx2_ BK342.out))
   refine bodyPost_ret (results_cell_row rfl _ _ gb342 34 #[.int .i64 t355, .int .i64 t356] (0, 0) _ rfl (bP_ (bP_ (hK_ BK342.out))) Tryz.underlying34 rfl (by kernel_rfl)) rfl ?_
   exact ⟨hV_, hC_⟩
end Go.Proofs.YtgokcaccamfgfaaGreatDoor.G
end
