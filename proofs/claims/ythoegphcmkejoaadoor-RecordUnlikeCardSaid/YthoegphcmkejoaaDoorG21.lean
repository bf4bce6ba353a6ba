-- Laid by the session's own driver gp.py over the kit's printer. Not trusted: Lean checks it.
import Derived.Test.YthoegphcmkejoaaDoorU2
import Derived.Test.YthoegphcmkejoaaDoorG0
import Derived.Test.YthoegphcmkejoaaDoorU6
namespace Go.Proofs.YthoegphcmkejoaaDoor.G
open Go.RowKit Go.Proofs.YthoegphcmkejoaaDoorW.PrintWords Go.Proofs.YthoegphcmkejoaaDoorW.PrintLast Go.Proofs.YthoegphcmkejoaaDoorW.PrintMore
set_option maxHeartbeats 8000000
set_option maxRecDepth 100000
attribute [local go_sem] max2_int min2_int max_two min_two max_three min_three max_four min_four   -- for this text's walks alone
set_option linter.unusedVariables false
set_option linter.unusedSimpArgs false

def sleuthlaw15_RecordSizes.l0 : Nat → ByteArray → Int → Int → Int → Int → List ByteArray → ByteArray → Option (Bool)
 | 0, _, _, _, _, _, _, _ => none
 | k + 1, x3, x5, x6, x177000, x177001, x177002, x177003 => if x6 < (x177002.length : Int) then (if 0 ≤ x6 then (sleuthlaw15_RecordSizes.l0 k x3 (wrap64 ((wrap64 (x5 + 2)) + ((rdOf ByteArray.empty x177002 x6).size : Int))) (wrap64 (x6 + 1)) x177000 x177001 x177002 x177003) else (none)) else (if (x3.size : Int) = x5 then (if 0 < (x3.size : Int) then (if (wrap64 (bt x3 0)) = x177000 then (if 1 < (x3.size : Int) then (if 2 < (x3.size : Int) then (if (wrap64 ((wrap64 (bt x3 1)) + (wrap64 (256 * (wrap64 (bt x3 2)))))) = (wrap64 (x177001 + 1)) then (if 3 < (x3.size : Int) then (some ((wrap64 (bt x3 3)) == (x177002.length : Int))) else (none)) else (none)) else (none)) else (none)) else (none)) else (none)) else (none))
def sleuthlaw15_RecordSizes.f (k : Nat) (a0_0 : Int) (a0_1 : Int) (l0_2 : List ByteArray) (a0_3 : ByteArray) : Option (Bool) := (sleuthlaw15_awake.f k).bind fun t177 => (if t177 = true then ((record_Put.f k a0_0 a0_1 l0_2 a0_3).bind fun bt178 => ((sleuthlaw0_Num.f bt178.2).bind fun t180 => (if t180 = 0 then (sleuthlaw15_RecordSizes.l0 k bt178.1 (wrap64 (6 + (a0_3.size : Int))) 0 a0_0 a0_1 l0_2 a0_3) else (some (bt178.1.toList == ([] : List UInt8)))))) else (none))
theorem sleuthlaw15_RecordSizes.calls (k : Nat) (a0_0 : Int) (a0_1 : Int) (A0_2 : Option Addr) (c0_2 : Nat) (l0_2 : List ByteArray) (a0_3 : ByteArray) (r : Bool) (w : World) (hr0_2 : Kd.C Kd.string w A0_2 l0_2.length l0_2) (hc0_2 : l0_2.length ≤ c0_2) (h : sleuthlaw15_RecordSizes.f k a0_0 a0_1 l0_2 a0_3 = some r) (hG : GOK w) :
 Calls Tryd.prog 6 #[.agg #[.int .i64 a0_0, .int .i64 a0_1, .slice A0_2 l0_2.length c0_2, .string a0_3]] w fun e w' => e = .returned (.bool r) ∧ Below w.heap.size w w' := by
 have hu24 := Tryd.underlying24
 have HR0_2 := a_ hr0_2
 have HC0_2 := a_ hc0_2
 clear hr0_2 hc0_2
 have HB := a_ (Below.refl w.heap.size w)
 have H := h; unfold sleuthlaw15_RecordSizes.f at H
 clear h
 replace H := Option.bind_eq_some_iff.mp H
 obtain ⟨t3, A20, H⟩ := H
 try dsimp only at H
 have A2 := a_ A20
 clear A20
 by_cases c3 : t3 = true
 case neg =>
  replace c3 := Bool.eq_false_iff.mpr c3
  subst c3
  rw [if_neg (show ¬ (false = true) by decide)] at H
  cases H
 subst c3
 rw [if_pos rfl] at H
 replace H := Option.bind_eq_some_iff.mp H
 obtain ⟨⟨t0, t1⟩, A40, H⟩ := H
 try dsimp only at H
 have A4 := a_ A40
 clear A40
 replace H := Option.bind_eq_some_iff.mp H
 obtain ⟨t2, A50, H⟩ := H
 try dsimp only at H
 have A5 := a_ A50
 clear A50
 by_cases c6 : t2 = 0
 case neg =>
  rw [if_neg c6] at H
  have c6b0 : (t2 == 0) = false := beq_eq_false_iff_ne.mpr c6
  have c6b1 : (t2 != 0) = true := bne_iff_ne.mpr c6
  obtain rfl := Option.some.inj H
  go_enter Tryd.func6, Tryd.ntmps6
  go_wp2_with (first | ((with_reducible refine gate_dst (N := 1) rfl ?_); (try (refine gate_guard (by rfl) ?_; dsimp only)); refine boxE_ 1 #[.int .i64 a0_0, .int .i64 a0_1, .slice A0_2 l0_2.length c0_2, .string a0_3] 24 ?_; intro g0 hg w0 hbox hb; have B0 := a_ (hbox); have E0 := a_ ((gE_ hg : w.heap.size ≤ g0)); replace HB := a_ (below_step hB_ hb); clear hb hbox hg) | (go_at_call 15; (with_reducible refine (sleuthlaw15_awake.calls k  true _ A2.out (by first | exact hG | exact GOK.below hG hC_)).mono ?_); rintro e w1 ⟨rfl, hb⟩; replace B0 := a_ (bB_ B0.out hb); replace HB := a_ (below_step hC_ hb); (try clear hb); (try clear hb2); (try clear hk); (try clear hi); obtain ⟨z8, z9, z10, z11, f8, f9, f10, f11⟩ := bx4_ B0.out) | (go_at_call 8; (with_reducible refine (record_Put.calls k a0_0 a0_1 _ _ l0_2 a0_3 t0 t1 _ ?s1 ?s2 A4.out (by first | exact hG | exact GOK.below hG hC_)).mono ?_); (case s1 => exact cB_ HR0_2.out); (case s2 => exact HC0_2.out); rintro e w2 ⟨rfl, hb⟩; replace B0 := a_ (bB_ B0.out hb); replace HB := a_ (below_step hC_ hb); (try clear hb); (try clear hb2); (try clear hk); (try clear hi)) | (go_at_call 12; (with_reducible refine (sleuthlaw0_Num.calls t1 t2 _ A5.out).mono ?_); rintro e w' ⟨rfl, ⟨nd, rfl⟩⟩; (try first | exact ⟨rfl, _, World.drewN_drewN _ _ _⟩ | exact ⟨rfl, _, Eq.trans (World.drewN_drewN _ _ _) (congrArg (World.drewN _) (Nat.add_assoc _ _ _))⟩)))
  repeat (go_quiet (first | ((with_reducible refine gate_dst (N := 1) rfl ?_); (try (refine gate_guard (by rfl) ?_; dsimp only)); refine boxE_ 1 #[.int .i64 a0_0, .int .i64 a0_1, .slice A0_2 l0_2.length c0_2, .string a0_3] 24 ?_; intro g0 hg w0 hbox hb; have B0 := a_ (hbox); have E0 := a_ ((gE_ hg : w.heap.size ≤ g0)); replace HB := a_ (below_step hB_ hb); clear hb hbox hg) | (go_at_call 15; (with_reducible refine (sleuthlaw15_awake.calls k  true _ A2.out (by first | exact hG | exact GOK.below hG hC_)).mono ?_); rintro e w1 ⟨rfl, hb⟩; replace B0 := a_ (bB_ B0.out hb); replace HB := a_ (below_step hC_ hb); (try clear hb); (try clear hb2); (try clear hk); (try clear hi); obtain ⟨z8, z9, z10, z11, f8, f9, f10, f11⟩ := bx4_ B0.out) | (go_at_call 8; (with_reducible refine (record_Put.calls k a0_0 a0_1 _ _ l0_2 a0_3 t0 t1 _ ?s1 ?s2 A4.out (by first | exact hG | exact GOK.below hG hC_)).mono ?_); (case s1 => exact cB_ HR0_2.out); (case s2 => exact HC0_2.out); rintro e w2 ⟨rfl, hb⟩; replace B0 := a_ (bB_ B0.out hb); replace HB := a_ (below_step hC_ hb); (try clear hb); (try clear hb2); (try clear hk); (try clear hi)) | (go_at_call 12; (with_reducible refine (sleuthlaw0_Num.calls t1 t2 _ A5.out).mono ?_); rintro e w' ⟨rfl, ⟨nd, rfl⟩⟩; (try first | exact ⟨rfl, _, World.drewN_drewN _ _ _⟩ | exact ⟨rfl, _, Eq.trans (World.drewN_drewN _ _ _) (congrArg (World.drewN _) (Nat.add_assoc _ _ _))⟩))); try go_wp2_with (first | ((with_reducible refine gate_dst (N := 1) rfl ?_); (try (refine gate_guard (by rfl) ?_; dsimp only)); refine boxE_ 1 #[.int .i64 a0_0, .int .i64 a0_1, .slice A0_2 l0_2.length c0_2, .string a0_3] 24 ?_; intro g0 hg w0 hbox hb; have B0 := a_ (hbox); have E0 := a_ ((gE_ hg : w.heap.size ≤ g0)); replace HB := a_ (below_step hB_ hb); clear hb hbox hg) | (go_at_call 15; (with_reducible refine (sleuthlaw15_awake.calls k  true _ A2.out (by first | exact hG | exact GOK.below hG hC_)).mono ?_); rintro e w1 ⟨rfl, hb⟩; replace B0 := a_ (bB_ B0.out hb); replace HB := a_ (below_step hC_ hb); (try clear hb); (try clear hb2); (try clear hk); (try clear hi); obtain ⟨z8, z9, z10, z11, f8, f9, f10, f11⟩ := bx4_ B0.out) | (go_at_call 8; (with_reducible refine (record_Put.calls k a0_0 a0_1 _ _ l0_2 a0_3 t0 t1 _ ?s1 ?s2 A4.out (by first | exact hG | exact GOK.below hG hC_)).mono ?_); (case s1 => exact cB_ HR0_2.out); (case s2 => exact HC0_2.out); rintro e w2 ⟨rfl, hb⟩; replace B0 := a_ (bB_ B0.out hb); replace HB := a_ (below_step hC_ hb); (try clear hb); (try clear hb2); (try clear hk); (try clear hi)) | (go_at_call 12; (with_reducible refine (sleuthlaw0_Num.calls t1 t2 _ A5.out).mono ?_); rintro e w' ⟨rfl, ⟨nd, rfl⟩⟩; (try first | exact ⟨rfl, _, World.drewN_drewN _ _ _⟩ | exact ⟨rfl, _, Eq.trans (World.drewN_drewN _ _ _) (congrArg (World.drewN _) (Nat.add_assoc _ _ _))⟩))))
  go_ret
  exact ⟨hV_, hC_⟩
 rw [if_pos c6] at H
 have c6b0 : (t2 == 0) = true := beq_iff_eq.mpr c6
 have c6b1 : (t2 != 0) = false := bne_eq_false_iff_eq.mpr c6
 clear c6
 have H' := a_ H
 clear H
 go_enter Tryd.func6, Tryd.ntmps6
 go_wp2_with (first | ((with_reducible refine gate_dst (N := 1) rfl ?_); (try (refine gate_guard (by rfl) ?_; dsimp only)); refine boxE_ 1 #[.int .i64 a0_0, .int .i64 a0_1, .slice A0_2 l0_2.length c0_2, .string a0_3] 24 ?_; intro g0 hg w7 hbox hb; have B0 := a_ (hbox); have E0 := a_ ((gE_ hg : w.heap.size ≤ g0)); replace HB := a_ (below_step hB_ hb); clear hb hbox hg) | (go_at_call 15; (with_reducible refine (sleuthlaw15_awake.calls k  true _ A2.out (by first | exact hG | exact GOK.below hG hC_)).mono ?_); rintro e w8 ⟨rfl, hb⟩; replace B0 := a_ (bB_ B0.out hb); replace HB := a_ (below_step hC_ hb); (try clear hb); (try clear hb2); (try clear hk); (try clear hi); obtain ⟨z0, z1, z2, z3, f0, f1, f2, f3⟩ := bx4_ B0.out) | (go_at_call 8; (with_reducible refine (record_Put.calls k a0_0 a0_1 _ _ l0_2 a0_3 t0 t1 _ ?s1 ?s2 A4.out (by first | exact hG | exact GOK.below hG hC_)).mono ?_); (case s1 => exact cB_ HR0_2.out); (case s2 => exact HC0_2.out); rintro e w3 ⟨rfl, hb⟩; replace B0 := a_ (bB_ B0.out hb); replace HB := a_ (below_step hC_ hb); (try clear hb); (try clear hb2); (try clear hk); (try clear hi)) | (go_at_call 12; (with_reducible refine (sleuthlaw0_Num.calls t1 t2 _ A5.out).mono ?_); rintro e w' ⟨rfl, ⟨nd, rfl⟩⟩; (try first | exact ⟨rfl, _, World.drewN_drewN _ _ _⟩ | exact ⟨rfl, _, Eq.trans (World.drewN_drewN _ _ _) (congrArg (World.drewN _) (Nat.add_assoc _ _ _))⟩); obtain ⟨z4, z5, z6, z7, f4, f5, f6, f7⟩ := bx4_ B0.out))
 repeat (go_quiet (first | ((with_reducible refine gate_dst (N := 1) rfl ?_); (try (refine gate_guard (by rfl) ?_; dsimp only)); refine boxE_ 1 #[.int .i64 a0_0, .int .i64 a0_1, .slice A0_2 l0_2.length c0_2, .string a0_3] 24 ?_; intro g0 hg w7 hbox hb; have B0 := a_ (hbox); have E0 := a_ ((gE_ hg : w.heap.size ≤ g0)); replace HB := a_ (below_step hB_ hb); clear hb hbox hg) | (go_at_call 15; (with_reducible refine (sleuthlaw15_awake.calls k  true _ A2.out (by first | exact hG | exact GOK.below hG hC_)).mono ?_); rintro e w8 ⟨rfl, hb⟩; replace B0 := a_ (bB_ B0.out hb); replace HB := a_ (below_step hC_ hb); (try clear hb); (try clear hb2); (try clear hk); (try clear hi); obtain ⟨z0, z1, z2, z3, f0, f1, f2, f3⟩ := bx4_ B0.out) | (go_at_call 8; (with_reducible refine (record_Put.calls k a0_0 a0_1 _ _ l0_2 a0_3 t0 t1 _ ?s1 ?s2 A4.out (by first | exact hG | exact GOK.below hG hC_)).mono ?_); (case s1 => exact cB_ HR0_2.out); (case s2 => exact HC0_2.out); rintro e w3 ⟨rfl, hb⟩; replace B0 := a_ (bB_ B0.out hb); replace HB := a_ (below_step hC_ hb); (try clear hb); (try clear hb2); (try clear hk); (try clear hi)) | (go_at_call 12; (with_reducible refine (sleuthlaw0_Num.calls t1 t2 _ A5.out).mono ?_); rintro e w' ⟨rfl, ⟨nd, rfl⟩⟩; (try first | exact ⟨rfl, _, World.drewN_drewN _ _ _⟩ | exact ⟨rfl, _, Eq.trans (World.drewN_drewN _ _ _) (congrArg (World.drewN _) (Nat.add_assoc _ _ _))⟩); obtain ⟨z4, z5, z6, z7, f4, f5, f6, f7⟩ := bx4_ B0.out)); try go_wp2_with (first | ((with_reducible refine gate_dst (N := 1) rfl ?_); (try (refine gate_guard (by rfl) ?_; dsimp only)); refine boxE_ 1 #[.int .i64 a0_0, .int .i64 a0_1, .slice A0_2 l0_2.length c0_2, .string a0_3] 24 ?_; intro g0 hg w7 hbox hb; have B0 := a_ (hbox); have E0 := a_ ((gE_ hg : w.heap.size ≤ g0)); replace HB := a_ (below_step hB_ hb); clear hb hbox hg) | (go_at_call 15; (with_reducible refine (sleuthlaw15_awake.calls k  true _ A2.out (by first | exact hG | exact GOK.below hG hC_)).mono ?_); rintro e w8 ⟨rfl, hb⟩; replace B0 := a_ (bB_ B0.out hb); replace HB := a_ (below_step hC_ hb); (try clear hb); (try clear hb2); (try clear hk); (try clear hi); obtain ⟨z0, z1, z2, z3, f0, f1, f2, f3⟩ := bx4_ B0.out) | (go_at_call 8; (with_reducible refine (record_Put.calls k a0_0 a0_1 _ _ l0_2 a0_3 t0 t1 _ ?s1 ?s2 A4.out (by first | exact hG | exact GOK.below hG hC_)).mono ?_); (case s1 => exact cB_ HR0_2.out); (case s2 => exact HC0_2.out); rintro e w3 ⟨rfl, hb⟩; replace B0 := a_ (bB_ B0.out hb); replace HB := a_ (below_step hC_ hb); (try clear hb); (try clear hb2); (try clear hk); (try clear hi)) | (go_at_call 12; (with_reducible refine (sleuthlaw0_Num.calls t1 t2 _ A5.out).mono ?_); rintro e w' ⟨rfl, ⟨nd, rfl⟩⟩; (try first | exact ⟨rfl, _, World.drewN_drewN _ _ _⟩ | exact ⟨rfl, _, Eq.trans (World.drewN_drewN _ _ _) (congrArg (World.drewN _) (Nat.add_assoc _ _ _))⟩); obtain ⟨z4, z5, z6, z7, f4, f5, f6, f7⟩ := bx4_ B0.out)))
 (try simp only [Act.put, List.setIfInBounds_toArray, List.set_cons_zero, List.set_cons_succ])
 go_loopg [5, 6] k (fun kq v5 v6 w' => ∃ (x1 : Int) (x0 : Int), v5 = .int .i64 x1 ∧ v6 = .int .i64 x0 ∧ Aside0 (sleuthlaw15_RecordSizes.l0 kq t0 x1 x0 a0_0 a0_1 l0_2 a0_3 = some r) ∧ Aside0 (kq ≤ k) ∧ Aside0 (w'.heap[g0]? = some (.cells #[.int .i64 a0_0, .int .i64 a0_1, (.slice A0_2 l0_2.length c0_2), .string a0_3] 24 (0, 0))) ∧ Aside0 (Below w.heap.size w w'))
 case atStart => exact ⟨(wrap64 (6 + (a0_3.size : Int))), (0), hW_, hW_, H', ⟨Nat.le_refl _⟩, ⟨(hK_ B0.out)⟩, ⟨hC_⟩⟩
 case round =>
  clear H'
  try clear p2
  try clear c3
  try clear c6
  try clear c6b0
  try clear c6b1
  try clear p6
  try clear z4
  try clear z5
  try clear z6
  try clear z7
  try clear z0
  try clear z1
  try clear z2
  try clear z3
  try clear f4
  try clear f5
  try clear f6
  try clear f7
  try clear f0
  try clear f1
  try clear f2
  try clear f3
  obtain ⟨x1, x0, rfl, rfl, HA, HK1, B0, HB⟩ := hrel
  cases gk with
  | zero => exact absurd HA.out (by simp [sleuthlaw15_RecordSizes.l0])
  | succ k1 =>
   have H := HA.out
   clear HA
   simp only [sleuthlaw15_RecordSizes.l0] at H
   by_cases c12 : x0 < (l0_2.length : Int)
   case pos =>
    rw [if_pos c12] at H
    have c12b0 : decide (x0 < (l0_2.length : Int)) = true := decide_eq_true c12
    clear c12
    replace H := ifI_ H; obtain ⟨c13, H⟩ := H
    have c13b0 : decide (0 ≤ x0) = true := decide_eq_true c13
    clear c13
    have H' := a_ H
    clear H
    obtain ⟨z12, z13, z14, z15, f12, f13, f14, f15⟩ := bx4_ B0.out
    have p181 : 0 ≤ (x0 : Int) := of_decide_eq_true hA_
    have q181 : x0 < (l0_2.length : Int) := of_decide_eq_true hA_
    obtain ⟨d0, e181, h0⟩ := Kd.at_string HR0_2.out x0 p181 q181
    cases e181
    replace h0 := cl_ HB.out h0
    replace p181 := eq_true p181
    replace q181 := eq_true q181
    go_wp2
    repeat (go_quiet (fail); try go_wp2)
    go_roundg k1
    case measure => have := HK1.out; omega
    case rel => exact ⟨(wrap64 ((wrap64 (x1 + 2)) + ((rdOf ByteArray.empty l0_2 x0).size : Int))), (wrap64 (x0 + 1)), hW_, hW_, H', ⟨by have := HK1.out; omega⟩, ⟨(hK_ B0.out)⟩, ⟨hC_⟩⟩
   rw [if_neg c12] at H
   have c12b0 : decide (x0 < (l0_2.length : Int)) = false := decide_eq_false c12
   clear c12
   by_cases c15 : (t0.size : Int) = x1
   case neg =>
    rw [if_neg c15] at H
    have c15b0 : ((t0.size : Int) == x1) = false := beq_eq_false_iff_ne.mpr c15
    have c15b1 : ((t0.size : Int) != x1) = true := bne_iff_ne.mpr c15
    cases H
   rw [if_pos c15] at H
   have c15b0 : ((t0.size : Int) == x1) = true := beq_iff_eq.mpr c15
   have c15b1 : ((t0.size : Int) != x1) = false := bne_eq_false_iff_eq.mpr c15
   clear c15
   replace H := ifI_ H; obtain ⟨c16, H⟩ := H
   have c16b0 : decide (0 < (t0.size : Int)) = true := decide_eq_true c16
   have c16b1 : decide (0 < t0.size) = true := decide_eq_true (by omega)
   clear c16
   by_cases c18 : (wrap64 (bt t0 0)) = a0_0
   case neg =>
    rw [if_neg c18] at H
    have c18b0 : ((wrap64 (bt t0 0)) == a0_0) = false := beq_eq_false_iff_ne.mpr c18
    have c18b1 : ((wrap64 (bt t0 0)) != a0_0) = true := bne_iff_ne.mpr c18
    (try (have c18b0w := c18b0; (rw [show wrap64 (bt t0 0) = (bt t0 0) from by unfold wrap64; omega] at c18b0w)))
    (try (have c18b1w := c18b1; (rw [show wrap64 (bt t0 0) = (bt t0 0) from by unfold wrap64; omega] at c18b1w)))
    cases H
   rw [if_pos c18] at H
   have c18b0 : ((wrap64 (bt t0 0)) == a0_0) = true := beq_iff_eq.mpr c18
   have c18b1 : ((wrap64 (bt t0 0)) != a0_0) = false := bne_eq_false_iff_eq.mpr c18
   (try (have c18b0w := c18b0; (rw [show wrap64 (bt t0 0) = (bt t0 0) from by unfold wrap64; omega] at c18b0w)))
   (try (have c18b1w := c18b1; (rw [show wrap64 (bt t0 0) = (bt t0 0) from by unfold wrap64; omega] at c18b1w)))
   clear c18
   replace H := ifI_ H; obtain ⟨c19, H⟩ := H
   have c19b0 : decide (1 < (t0.size : Int)) = true := decide_eq_true c19
   have c19b1 : decide (1 < t0.size) = true := decide_eq_true (by omega)
   clear c19
   replace H := ifI_ H; obtain ⟨c21, H⟩ := H
   have c21b0 : decide (2 < (t0.size : Int)) = true := decide_eq_true c21
   have c21b1 : decide (2 < t0.size) = true := decide_eq_true (by omega)
   clear c21
   by_cases c23 : (wrap64 ((wrap64 (bt t0 1)) + (wrap64 (256 * (wrap64 (bt t0 2)))))) = (wrap64 (a0_1 + 1))
   case neg =>
    rw [if_neg c23] at H
    have c23b0 : ((wrap64 ((wrap64 (bt t0 1)) + (wrap64 (256 * (wrap64 (bt t0 2)))))) == (wrap64 (a0_1 + 1))) = false := beq_eq_false_iff_ne.mpr c23
    have c23b1 : ((wrap64 ((wrap64 (bt t0 1)) + (wrap64 (256 * (wrap64 (bt t0 2)))))) != (wrap64 (a0_1 + 1))) = true := bne_iff_ne.mpr c23
    (try (have c23b0w := c23b0; try (rw [show wrap64 (a0_1 + 1) = (a0_1 + 1) from by unfold wrap64; omega] at c23b0w); try (rw [show wrap64 (bt t0 1) = (bt t0 1) from by unfold wrap64; omega] at c23b0w); try (rw [show wrap64 (bt t0 2) = (bt t0 2) from by unfold wrap64; omega] at c23b0w); try (rw [show wrap64 (256 * (wrap64 (bt t0 2))) = (256 * (wrap64 (bt t0 2))) from by unfold wrap64; omega] at c23b0w); try (rw [show wrap64 ((wrap64 (bt t0 1)) + (wrap64 (256 * (wrap64 (bt t0 2))))) = ((wrap64 (bt t0 1)) + (wrap64 (256 * (wrap64 (bt t0 2))))) from by unfold wrap64; omega] at c23b0w)))
    (try (have c23b1w := c23b1; try (rw [show wrap64 (a0_1 + 1) = (a0_1 + 1) from by unfold wrap64; omega] at c23b1w); try (rw [show wrap64 (bt t0 1) = (bt t0 1) from by unfold wrap64; omega] at c23b1w); try (rw [show wrap64 (bt t0 2) = (bt t0 2) from by unfold wrap64; omega] at c23b1w); try (rw [show wrap64 (256 * (wrap64 (bt t0 2))) = (256 * (wrap64 (bt t0 2))) from by unfold wrap64; omega] at c23b1w); try (rw [show wrap64 ((wrap64 (bt t0 1)) + (wrap64 (256 * (wrap64 (bt t0 2))))) = ((wrap64 (bt t0 1)) + (wrap64 (256 * (wrap64 (bt t0 2))))) from by unfold wrap64; omega] at c23b1w)))
    cases H
   rw [if_pos c23] at H
   have c23b0 : ((wrap64 ((wrap64 (bt t0 1)) + (wrap64 (256 * (wrap64 (bt t0 2)))))) == (wrap64 (a0_1 + 1))) = true := beq_iff_eq.mpr c23
   have c23b1 : ((wrap64 ((wrap64 (bt t0 1)) + (wrap64 (256 * (wrap64 (bt t0 2)))))) != (wrap64 (a0_1 + 1))) = false := bne_eq_false_iff_eq.mpr c23
   (try (have c23b0w := c23b0; try (rw [show wrap64 (a0_1 + 1) = (a0_1 + 1) from by unfold wrap64; omega] at c23b0w); try (rw [show wrap64 (bt t0 1) = (bt t0 1) from by unfold wrap64; omega] at c23b0w); try (rw [show wrap64 (bt t0 2) = (bt t0 2) from by unfold wrap64; omega] at c23b0w); try (rw [show wrap64 (256 * (wrap64 (bt t0 2))) = (256 * (wrap64 (bt t0 2))) from by unfold wrap64; omega] at c23b0w); try (rw [show wrap64 ((wrap64 (bt t0 1)) + (wrap64 (256 * (wrap64 (bt t0 2))))) = ((wrap64 (bt t0 1)) + (wrap64 (256 * (wrap64 (bt t0 2))))) from by unfold wrap64; omega] at c23b0w)))
   (try (have c23b1w := c23b1; try (rw [show wrap64 (a0_1 + 1) = (a0_1 + 1) from by unfold wrap64; omega] at c23b1w); try (rw [show wrap64 (bt t0 1) = (bt t0 1) from by unfold wrap64; omega] at c23b1w); try (rw [show wrap64 (bt t0 2) = (bt t0 2) from by unfold wrap64; omega] at c23b1w); try (rw [show wrap64 (256 * (wrap64 (bt t0 2))) = (256 * (wrap64 (bt t0 2))) from by unfold wrap64; omega] at c23b1w); try (rw [show wrap64 ((wrap64 (bt t0 1)) + (wrap64 (256 * (wrap64 (bt t0 2))))) = ((wrap64 (bt t0 1)) + (wrap64 (256 * (wrap64 (bt t0 2))))) from by unfold wrap64; omega] at c23b1w)))
   clear c23
   replace H := ifI_ H; obtain ⟨c24, H⟩ := H
   have c24b0 : decide (3 < (t0.size : Int)) = true := decide_eq_true c24
   have c24b1 : decide (3 < t0.size) = true := decide_eq_true (by omega)
   clear c24
   obtain rfl := Option.some.inj H
   obtain ⟨z16, z17, z18, z19, f16, f17, f18, f19⟩ := bx4_ B0.out
   have p17 : 0 ≤ (0 : Int) := (by omega)
   have q17 : 0 < t0.size := (by have : (0 : Int) < (t0.size : Int) := of_decide_eq_true hA_; omega)
   have h1 : ∀ h : 0 < t0.size, ((t0[0]'h).toNat : Int) = bt t0 0 := bt_at t0 0
   clear p17
   have qi17 : (0 < (t0.size : Int)) = True := eq_true (of_decide_eq_true hA_)
   replace q17 := eq_true q17
   have p20 : 0 ≤ (1 : Int) := (by omega)
   have q20 : 1 < t0.size := (by have : (1 : Int) < (t0.size : Int) := of_decide_eq_true hA_; omega)
   have h2 : ∀ h : 1 < t0.size, ((t0[1]'h).toNat : Int) = bt t0 1 := bt_at t0 1
   clear p20
   have qi20 : (1 < (t0.size : Int)) = True := eq_true (of_decide_eq_true hA_)
   replace q20 := eq_true q20
   have p22 : 0 ≤ (2 : Int) := (by omega)
   have q22 : 2 < t0.size := (by have : (2 : Int) < (t0.size : Int) := of_decide_eq_true hA_; omega)
   have h3 : ∀ h : 2 < t0.size, ((t0[2]'h).toNat : Int) = bt t0 2 := bt_at t0 2
   clear p22
   have qi22 : (2 < (t0.size : Int)) = True := eq_true (of_decide_eq_true hA_)
   replace q22 := eq_true q22
   have p25 : 0 ≤ (3 : Int) := (by omega)
   have q25 : 3 < t0.size := (by have : (3 : Int) < (t0.size : Int) := of_decide_eq_true hA_; omega)
   have h4 : ∀ h : 3 < t0.size, ((t0[3]'h).toNat : Int) = bt t0 3 := bt_at t0 3
   clear p25
   have qi25 : (3 < (t0.size : Int)) = True := eq_true (of_decide_eq_true hA_)
   replace q25 := eq_true q25
   go_wp2
   repeat (go_quiet (fail); try go_wp2)
   go_ret
   exact ⟨hV_, hC_⟩
end Go.Proofs.YthoegphcmkejoaaDoor.G
