-- Laid by the session's own driver gp.py over the kit's printer. Not trusted: Lean checks it.
import Derived.Test.YtifhpkakdlfgnaaGreatDoorU2
import Derived.Test.YtifhpkakdlfgnaaGreatDoorG0
import Derived.Test.YtifhpkakdlfgnaaGreatDoorU8
import Derived.Test.YtifhpkakdlfgnaaGreatDoorU6
import Derived.Test.YtifhpkakdlfgnaaGreatDoorU9
import Derived.Test.YtifhpkakdlfgnaaGreatDoorU10
import Derived.Test.YtifhpkakdlfgnaaGreatDoorG37
import Derived.Test.YtifhpkakdlfgnaaGreatDoorG38
namespace Go.Proofs.YtifhpkakdlfgnaaGreatDoor.G
open Go.RowKit Go.Proofs.YtifhpkakdlfgnaaGreatDoorW.PrintWords Go.Proofs.YtifhpkakdlfgnaaGreatDoorW.PrintLast Go.Proofs.YtifhpkakdlfgnaaGreatDoorW.PrintMore
set_option maxHeartbeats 8000000
set_option maxRecDepth 100000
attribute [local go_sem] max2_int min2_int max_two min_two max_three min_three max_four min_four   -- for this text's walks alone
set_option linter.unusedVariables false
set_option linter.unusedSimpArgs false

def sleuthlaw19_Halves.f (k : Nat) (l0 : List S40) (l1 : List Int) : Option Bool := (sleuthlaw0_CopyNodes.f k l0).bind fun x => (sleuthlaw0_LendInts.f l1).bind fun y => (half_Next.f k x y).bind fun a => (sleuthref12_Half.f k l0 l1).bind fun b => if (a.1 == b.1 && (a.2.1 == b.2.1)) = true then (sleuthlaw0_Num.f a.2.2).bind fun t2 => if t2 = b.2.2 then (sleuthlaw0_SameNodes.f k x l0).bind fun t3 => if t3 = true then (sleuthlaw0_KeptInts.f k y l1).bind fun t4 => if t4 = true then sleuthlaw19_awake.f k else none else none else none else none
theorem sleuthlaw19_Halves.calls (k : Nat) (A0 : Option Addr) (c0 : Nat) (l0 : List S40) (A1 : Option Addr) (c1 : Nat) (l1 : List Int) (r : Bool) (w : World) (hr0 : Kd.C k40 w A0 l0.length l0) (hc0 : l0.length ≤ c0) (hr1 : Kd.C (Kd.int .i64) w A1 l1.length l1) (hc1 : l1.length ≤ c1) (h : sleuthlaw19_Halves.f k l0 l1 = some r) (hG : GOK w) :
 Calls Tryz.prog 3 #[.slice A0 l0.length c0, .slice A1 l1.length c1] w fun e w' => e = .returned (.bool r) ∧ Below w.heap.size w w' := by
 have hu := Tryz.underlying27
 have HRn := a_ hr0
 have HCn := a_ hc0
 have HRm := a_ hr1
 have HCm := a_ hc1
 clear hr0 hc0 hr1 hc1
 have HB := a_ (Below.refl w.heap.size w)
 unfold sleuthlaw19_Halves.f at h
 obtain ⟨lx, B1_, h⟩ := Option.bind_eq_some_iff.mp h
 (try dsimp only at h)
 have B1 := a_ B1_
 clear B1_
 obtain ⟨ly, B2_, h⟩ := Option.bind_eq_some_iff.mp h
 (try dsimp only at h)
 have B2 := a_ B2_
 clear B2_
 obtain ⟨⟨a1, a2, ea⟩, B3_, h⟩ := Option.bind_eq_some_iff.mp h
 (try dsimp only at h)
 have B3 := a_ B3_
 clear B3_
 obtain ⟨⟨b1, b2, eb⟩, B4_, h⟩ := Option.bind_eq_some_iff.mp h
 (try dsimp only at h)
 have B4 := a_ B4_
 clear B4_
 by_cases q1 : (a1 == b1 && (a2 == b2)) = true
 case neg => rw [if_neg q1] at h; cases h
 rw [if_pos q1] at h
 obtain ⟨t2, B5_, h⟩ := Option.bind_eq_some_iff.mp h
 (try dsimp only at h)
 have B5 := a_ B5_
 clear B5_
 by_cases q2 : t2 = eb
 case neg => rw [if_neg q2] at h; cases h
 rw [if_pos q2] at h
 obtain ⟨t3, B6_, h⟩ := Option.bind_eq_some_iff.mp h
 (try dsimp only at h)
 have B6 := a_ B6_
 clear B6_
 by_cases q3 : t3 = true
 case neg => rw [if_neg q3] at h; cases h
 rw [if_pos q3] at h
 obtain ⟨t4, B7_, h⟩ := Option.bind_eq_some_iff.mp h
 (try dsimp only at h)
 have B7 := a_ B7_
 clear B7_
 by_cases q4 : t4 = true
 case neg => rw [if_neg q4] at h; cases h
 rw [if_pos q4] at h
 subst q3 q4
 have B8 := a_ h
 clear h
 have q2a : (t2 == eb) = true := beq_iff_eq.mpr q2
 have q2b : (t2 != eb) = false := bne_eq_false_iff_eq.mpr q2
 obtain ⟨e1_, e2_⟩ : a1 = b1 ∧ a2 = b2 := by simpa using q1
 subst e1_ e2_
 clear q1
 clear q2
 go_enter Tryz.func3, Tryz.ntmps3
 go_wp2_with (first
  | ((with_reducible refine gate_callee (f := 4) rfl ?_); refine goesL_ _ rfl rfl Tryz.func4 (by kernel_rfl) rfl #[.slice A0 l0.length c0] rfl hL_ ?_; (with_reducible refine (sleuthlaw0_CopyNodes.calls k _ _ l0 lx _ ?s1 ?s2 B1.out).mono ?_); (case s1 => exact (Kd.C_below HRn.out hC_)); (case s2 => exact HCn.out); rintro e w1 ⟨v0_, rfl, hs0, hb⟩; refine ⟨_, rfl, ?_⟩; have hs_ := below_step hC_ hb; obtain ⟨Ax, cx, rfl⟩ := Kd.S_slice hs0; have HRx := a_ (Kd.S_reads' hs0).2.2; have HCx := a_ (Kd.S_reads' hs0).2.1; replace HRn := a_ (Kd.C_below HRn.out hs_); replace HRm := a_ (Kd.C_below HRm.out hs_); have X0 := a_ hs_; replace hG := GOK.below hG hs_; have HX := a_ (Below.refl w1.heap.size w1); replace HB := a_ (Below.refl w1.heap.size w1); clear hs_ hb hs0)
  | ((with_reducible refine gate_callee (f := 5) rfl ?_); refine goesL_ _ rfl rfl Tryz.func5 (by kernel_rfl) rfl #[.slice A1 l1.length c1] rfl hL_ ?_; (with_reducible refine (sleuthlaw0_LendInts.calls _ _ l1 ly _ ?s1 ?s2 B2.out).mono ?_); (case s1 => exact (Kd.C_below HRm.out (below_step HX.out hC_))); (case s2 => exact HCm.out); rintro e wc2 ⟨Ay, cy, rfl, ho1, ho2, ho3, hb⟩; refine ⟨_, rfl, ?_⟩; have hs_ := below_step hC_ hb; replace HX := a_ (below_step HX.out hs_); replace HB := a_ (Below.refl wc2.heap.size wc2); clear hs_ hb; have HOy := a_ ho1; have HOz := a_ ho2; have HCz := a_ ho3; have HCy := a_ (show ly.length ≤ cy by have h_ := ho3; rw [List.length_append] at h_; omega); clear ho1 ho2 ho3)
  | ((with_reducible refine gate_callee (f := 6) rfl ?_); refine goesL_ _ rfl rfl Tryz.func6 (by kernel_rfl) rfl #[.slice Ax lx.length cx, .slice Ay ly.length cy] rfl hL_ ?_; (with_reducible refine (half_Next.calls k _ _ lx _ _ ly a1 a2 ea _ ?s1 ?s2 ?s3 ?s4 B3.out (GOK.below hG (below_step HX.out hC_))).mono ?_); (case s1 => exact (Kd.C_below HRx.out (below_step HX.out hC_))); (case s2 => exact HCx.out); (case s3 => exact (Kd.C_below HOy.out hC_)); (case s4 => exact HCy.out); rintro e wc3 ⟨rfl, hb⟩; refine ⟨_, rfl, ?_⟩; have hs_ := below_step hC_ hb; replace HOy := a_ (Kd.C_below HOy.out hs_); replace HOz := a_ (Kd.C_below HOz.out hs_); replace HX := a_ (below_step HX.out hs_); replace HB := a_ (Below.refl wc3.heap.size wc3); clear hs_ hb)
  | ((with_reducible refine gate_dst (N := 7) rfl ?_); refine boxE_ 7 #[.int .i64 0, .int .i64 0] 27 ?_; intro g0 hg wb7 hbox hb; have E0 := a_ (gE_ hg : wc3.heap.size ≤ g0); have B0 := a_ hbox; (try clear z0 f0 z1 f1); obtain ⟨z0, z1, f0, f1⟩ := bx2_ B0.out; have hs_ := below_step hC_ hb; replace HB := a_ hs_; clear hs_ hb hbox hg)
  | ((with_reducible refine gate_callee (f := 7) rfl ?_); refine goesL_ _ rfl rfl Tryz.func7 (by kernel_rfl) rfl #[.slice A0 l0.length c0, .slice A1 l1.length c1] rfl hL_ ?_; (with_reducible refine (sleuthref12_Half.calls k _ _ l0 _ _ l1 a1 a2 eb _ ?s1 ?s2 ?s3 ?s4 B4.out).mono ?_); (case s1 => exact (Kd.C_below HRn.out (below_step HX.out hC_))); (case s2 => exact HCn.out); (case s3 => exact (Kd.C_below HRm.out (below_step HX.out hC_))); (case s4 => exact HCm.out); rintro e wc4 ⟨rfl, hb⟩; refine ⟨_, rfl, ?_⟩; have hs_ := below_step hC_ hb; replace HOy := a_ (Kd.C_below HOy.out hs_); replace HOz := a_ (Kd.C_below HOz.out hs_); replace B0 := a_ (blk_below (g := g0) (o := .cells #[.int .i64 a1, .int .i64 a2] 27 (0, 0)) (by (with_reducible repeat (first | refine blk_drewN ?_ _ | refine blk_drew ?_ | refine blk_alloc ?_ _)); exact (bP_ (bP_ (hK_ B0.out)))) hb); replace HX := a_ (below_step HX.out hs_); replace HB := a_ (Below.refl wc4.heap.size wc4); clear hs_ hb; (try clear z0 f0 z1 f1); obtain ⟨z0, z1, f0, f1⟩ := bx2_ B0.out)
  | ((with_reducible refine gate_dst (N := 9) rfl ?_); refine boxE_ 9 #[.int .i64 0, .int .i64 0] 27 ?_; intro g1 hg wb9 hbox hb; have E1 := a_ (gE_ hg : wc4.heap.size ≤ g1); have m0 := (bL_ B0.out hg : g0 ≠ g1); have m1 := (bG_ B0.out hg : g1 ≠ g0); have B9 := a_ hbox; (try clear z0 f0 z1 f1); obtain ⟨z0, z1, f0, f1⟩ := bx2_ (bB_ B0.out hb); (try clear z2 f2 z3 f3); obtain ⟨z2, z3, f2, f3⟩ := bx2_ B9.out; have hs_ := below_step hC_ hb; replace HB := a_ hs_; clear hs_ hb hbox hg)
  | (go_at_call 8; (with_reducible refine (sleuthlaw0_Num.calls ea t2 _ B5.out).mono ?_); rintro e w' ⟨rfl, ⟨nq_, rfl⟩⟩)
  | (go_at_call 9; (with_reducible refine (sleuthlaw0_SameNodes.calls k _ _ lx _ _ l0 true _ ?s1 ?s2 ?s3 ?s4 B6.out).mono ?_); (case s1 => exact (Kd.C_below HRx.out (below_step HX.out hC_))); (case s2 => exact HCx.out); (case s3 => exact (Kd.C_below HRn.out (below_step HX.out hC_))); (case s4 => exact HCn.out); rintro e wc5 ⟨rfl, hb⟩; have hs_ := below_step hC_ hb; replace HOy := a_ (Kd.C_below HOy.out hs_); replace HOz := a_ (Kd.C_below HOz.out hs_); replace B0 := a_ (blk_below B0.out hs_); replace B9 := a_ (blk_below (g := g1) (o := .cells #[.int .i64 a1, .int .i64 a2] 27 (0, 0)) (by (with_reducible repeat (first | refine blk_drewN ?_ _ | refine blk_drew ?_ | refine blk_alloc ?_ _)); exact (bP_ (bP_ (hK_ B9.out)))) hb); replace HX := a_ (below_step HX.out hs_); replace HB := a_ (Below.refl wc5.heap.size wc5); clear hs_ hb; (try clear z0 f0 z1 f1); obtain ⟨z0, z1, f0, f1⟩ := bx2_ B0.out; (try clear z2 f2 z3 f3); obtain ⟨z2, z3, f2, f3⟩ := bx2_ B9.out)
  | (go_at_call 10; (with_reducible refine (sleuthlaw0_KeptInts.calls k _ _ ly _ _ l1 true _ ((Kd.C_below HOy.out hC_)) ((Kd.C_below HOz.out hC_)) (HCz.out) ((Kd.C_below HRm.out (below_step HX.out hC_))) (HCm.out) B7.out).mono ?_); rintro e w' ⟨rfl, ⟨nq_, rfl⟩⟩)
  | (go_at_call 11; (with_reducible refine (sleuthlaw19_awake.calls k r _ B8.out (GOK.below hG (below_step HX.out hC_))).mono ?_); rintro e wc6 ⟨rfl, hb⟩; have hs_ := below_step hC_ hb; replace HOy := a_ (Kd.C_below HOy.out hs_); replace HOz := a_ (Kd.C_below HOz.out hs_); replace B0 := a_ (blk_below B0.out hs_); replace B9 := a_ (blk_below B9.out hs_); replace HX := a_ (below_step HX.out hs_); replace HB := a_ (Below.refl wc6.heap.size wc6); clear hs_ hb; (try clear z0 f0 z1 f1); obtain ⟨z0, z1, f0, f1⟩ := bx2_ B0.out; (try clear z2 f2 z3 f3); obtain ⟨z2, z3, f2, f3⟩ := bx2_ B9.out))
 go_ret
 exact ⟨hV_, below_step X0.out (below_step HX.out hC_)⟩

end Go.Proofs.YtifhpkakdlfgnaaGreatDoor.G
