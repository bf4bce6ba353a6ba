-- Laid by the session's own driver gp.py over the kit's printer. Not trusted: Lean checks it.
import Derived.Test.YthoegphcmkejoaaDoorU2
import Derived.Test.YthoegphcmkejoaaDoorG0
import Derived.Test.YthoegphcmkejoaaDoorU8
import Derived.Test.YthoegphcmkejoaaDoorU9
namespace Go.Proofs.YthoegphcmkejoaaDoor.G
open Go.RowKit Go.Proofs.YthoegphcmkejoaaDoorW.PrintWords Go.Proofs.YthoegphcmkejoaaDoorW.PrintLast Go.Proofs.YthoegphcmkejoaaDoorW.PrintMore
set_option maxHeartbeats 8000000
set_option maxRecDepth 100000
attribute [local go_sem] max2_int min2_int max_two min_two max_three min_three max_four min_four   -- for this text's walks alone
set_option linter.unusedVariables false
set_option linter.unusedSimpArgs false

def borK15 {α : Type} (w0 : World) (d : Kd α) : Kd α where
 sz := d.sz
 E := d.E
 K := fun _ x cs => d.K w0 x cs
 M := fun _ _ _ x cs => d.K w0 x cs
 K_len := fun h => d.K_len h
 K_one := fun h => d.K_one h
 K_below := fun _ h => h
 K_of_M := fun h => h
 M_mono := fun _ h => h
 M_bound := fun h => h
 M_move := fun _ h => h
 M_lower := fun _ h => h
theorem types_no15 {W : World} {k t : Nat} {cells : Array Value} {L : List Nat} (hb : W.heap[k]? = some (.cells cells t (0, 0))) (ht : ∀ q, q ∈ L → q ≠ t) (h : ∃ q, q ∈ L ∧ ∃ cells, W.heap[k]? = some (.cells cells q (0, 0))) : False := by
 obtain ⟨q, hq, c2, h2⟩ := h
 rw [hb] at h2
 injection h2 with h2
 injection h2 with _ h3
 exact ht q hq h3.symm
def sleuthlaw15_Records.f (k : Nat) (x0 x1 : Int) (lx : List ByteArray) (x3 : ByteArray) (s : ByteArray) : Option Bool := (sleuthlaw0_CopyNodes.f k [(⟨x0, x1, lx, x3⟩ : S24)]).bind fun ly => if 0 < (ly.length : Int) then (record_Put.f k (rd_T24 ly 0).f0 (rd_T24 ly 0).f1 (rd_T24 ly 0).f2 (rd_T24 ly 0).f3).bind fun a => (sleuthref12_PutRecord.f k x0 x1 lx x3).bind fun b => (record_Get.f k s).bind fun c => (sleuthref12_GetRecord.f k s).bind fun d => (record_Get.f k a.1).bind fun y => (record_Put.f k c.1 c.2.1 c.2.2.1 c.2.2.2.1).bind fun t =>
 if a.1.toList = b.1.toList then (sleuthlaw0_Num.f a.2).bind fun t1 => if t1 = b.2 then (sleuthlaw0_SameNode.f k c.1 c.2.1 c.2.2.1 c.2.2.2.1 d.1 d.2.1 d.2.2.1 d.2.2.2.1).bind fun t2 => if t2 = true then (sleuthlaw0_Num.f c.2.2.2.2).bind fun t3 => if t3 = d.2.2.2.2 then
 (if t1 = 0 then (sleuthlaw0_SameNode.f k y.1 y.2.1 y.2.2.1 y.2.2.2.1 x0 x1 lx x3).bind fun t5 => if t5 = true then (sleuthlaw0_Num.f y.2.2.2.2).bind fun t6 => if t6 = 0 then some () else none else none else some ()).bind fun _ => (if t3 = 0 then if t.1.toList = s.toList then (sleuthlaw0_Num.f t.2).bind fun t7 => if t7 = 0 then some () else none else none else some ()).bind fun _ =>
 (sleuthlaw0_SpoilTexts.f k c.2.2.1).bind fun _ => (sleuthlaw0_SameNode.f k (rd_T24 ly 0).f0 (rd_T24 ly 0).f1 (rd_T24 ly 0).f2 (rd_T24 ly 0).f3 x0 x1 lx x3).bind fun t8 => if t8 = true then sleuthlaw15_awake.f k else none else none else none else none else none else none
def sleuthlaw15_Records.T13 : Bool × List (List Nat × List Nat) := (true, [([], []), ([0], [0]), ([1], [1]), ([], []), ([2, 3], [2, 3]), ([4, 4], [4]), ([5, 5], [5]), ([5, 6], [5, 6]), ([7, 6, 0, 1, 2, 3, 4, 5, 6, 7], [7])])
def sleuthlaw15_Records.B13 : List Nat := [0, 1, 3, 0, 15, 31, 63, 127, 255]
theorem sleuthlaw15_Records.tab13 : rtab .any (opsOf Tryd.f3 13) = sleuthlaw15_Records.T13 := by kernel_rfl
theorem sleuthlaw15_Records.bits13 : waitsOk sleuthlaw15_Records.T13.2 sleuthlaw15_Records.B13 = true := by kernel_rfl
theorem sleuthlaw15_Records.calls (k : Nat) (x0 x1 : Int) (Ax : Option Addr) (cx : Nat) (lx : List ByteArray) (x3 : ByteArray) (s : ByteArray) (r : Bool) (w : World) (hr0 : Kd.C Kd.string w Ax lx.length lx) (hc0 : lx.length ≤ cx) (h : sleuthlaw15_Records.f k x0 x1 lx x3 s = some r) (hG : GOK w) :
 Calls Tryd.prog 3 #[.agg #[.int .i64 x0, .int .i64 x1, .slice Ax lx.length cx, .string x3], .string s] w fun e w' => e = .returned (.bool r) ∧ Below w.heap.size w w' := by
 have hu := Tryd.underlying24
 have HRx := a_ hr0
 have HCx := a_ hc0
 clear hr0 hc0
 have HB := a_ (Below.refl w.heap.size w)
 unfold sleuthlaw15_Records.f at h
 obtain ⟨ly, B1_, h⟩ := Option.bind_eq_some_iff.mp h
 (try dsimp only at h)
 have B1 := a_ B1_
 clear B1_
 by_cases cL : 0 < (ly.length : Int)
 case neg => rw [if_neg cL] at h; cases h
 rw [if_pos cL] at h
 obtain ⟨⟨p, ea⟩, B2_, h⟩ := Option.bind_eq_some_iff.mp h
 (try dsimp only at h)
 have B2 := a_ B2_
 clear B2_
 obtain ⟨⟨q, eb⟩, B3_, h⟩ := Option.bind_eq_some_iff.mp h
 (try dsimp only at h)
 have B3 := a_ B3_
 clear B3_
 obtain ⟨⟨c0, c1, c2, c3, ec⟩, B4_, h⟩ := Option.bind_eq_some_iff.mp h
 (try dsimp only at h)
 have B4 := a_ B4_
 clear B4_
 obtain ⟨⟨d0, d1, d2, d3, ed⟩, B5_, h⟩ := Option.bind_eq_some_iff.mp h
 (try dsimp only at h)
 have B5 := a_ B5_
 clear B5_
 obtain ⟨⟨y0, y1, y2, y3, ey⟩, B6_, h⟩ := Option.bind_eq_some_iff.mp h
 (try dsimp only at h)
 have B6 := a_ B6_
 clear B6_
 obtain ⟨⟨u, eu⟩, B7_, h⟩ := Option.bind_eq_some_iff.mp h
 (try dsimp only at h)
 have B7 := a_ B7_
 clear B7_
 by_cases cP : p.toList = q.toList
 case neg => rw [if_neg cP] at h; cases h
 rw [if_pos cP] at h
 obtain ⟨t1, T1_, h⟩ := Option.bind_eq_some_iff.mp h
 (try dsimp only at h)
 have T1 := a_ T1_
 clear T1_
 by_cases cT1 : t1 = eb
 case neg => rw [if_neg cT1] at h; cases h
 rw [if_pos cT1] at h
 obtain ⟨t2, T2_, h⟩ := Option.bind_eq_some_iff.mp h
 (try dsimp only at h)
 have T2 := a_ T2_
 clear T2_
 by_cases cT2 : t2 = true
 case neg => rw [if_neg cT2] at h; cases h
 rw [if_pos cT2] at h
 obtain ⟨t3, T3_, h⟩ := Option.bind_eq_some_iff.mp h
 (try dsimp only at h)
 have T3 := a_ T3_
 clear T3_
 by_cases cT3 : t3 = ed
 case neg => rw [if_neg cT3] at h; cases h
 rw [if_pos cT3] at h
 obtain ⟨_, W1_, h⟩ := Option.bind_eq_some_iff.mp h
 obtain ⟨_, W2_, h⟩ := Option.bind_eq_some_iff.mp h
 obtain ⟨cs, B8_, h⟩ := Option.bind_eq_some_iff.mp h
 (try dsimp only at h)
 have B8 := a_ B8_
 clear B8_
 obtain ⟨t8, T8_, h⟩ := Option.bind_eq_some_iff.mp h
 (try dsimp only at h)
 have T8 := a_ T8_
 clear T8_
 by_cases cT8 : t8 = true
 case neg => rw [if_neg cT8] at h; cases h
 rw [if_pos cT8] at h
 subst cT2 cT8
 have B9 := a_ h
 clear h
 have cPa : (p.toList == q.toList) = true := beq_iff_eq.mpr cP
 have cPb : (p.toList != q.toList) = false := bne_eq_false_iff_eq.mpr cP
 have c1a : (t1 == eb) = true := beq_iff_eq.mpr cT1
 have c1b : (t1 != eb) = false := bne_eq_false_iff_eq.mpr cT1
 have c3a : (t3 == ed) = true := beq_iff_eq.mpr cT3
 have c3b : (t3 != ed) = false := bne_eq_false_iff_eq.mpr cT3
 have HcL := a_ cL
 clear cP cT1 cT3 cL
 obtain ⟨yl, hyl⟩ : ∃ y_, y_ = [(⟨x0, x1, lx, x3⟩ : S24)] := ⟨_, rfl⟩
 rw [← hyl] at B1
 have Nyl := a_ hyl
 clear hyl
 by_cases e1 : t1 = 0
 case pos =>
  by_cases e3 : t3 = 0
  case pos =>
   have z1 : (t1 == 0) = true := beq_iff_eq.mpr e1
   rw [if_pos e1] at W1_
   obtain ⟨t5, T5_, W1_⟩ := Option.bind_eq_some_iff.mp W1_
   by_cases cT5 : t5 = true
   case neg => rw [if_neg cT5] at W1_; cases W1_
   rw [if_pos cT5] at W1_
   subst cT5
   obtain ⟨t6, T6_, W1_⟩ := Option.bind_eq_some_iff.mp W1_
   by_cases cT6 : t6 = 0
   case neg => rw [if_neg cT6] at W1_; cases W1_
   have T5 := a_ T5_
   have T6 := a_ T6_
   have z6 : (t6 == 0) = true := beq_iff_eq.mpr cT6
   have z6b : (t6 != 0) = false := bne_eq_false_iff_eq.mpr cT6
   clear T5_ T6_ W1_ cT6 e1
   have z3 : (t3 == 0) = true := beq_iff_eq.mpr e3
   rw [if_pos e3] at W2_
   by_cases cU : u.toList = s.toList
   case neg => rw [if_neg cU] at W2_; cases W2_
   rw [if_pos cU] at W2_
   obtain ⟨t7, T7_, W2_⟩ := Option.bind_eq_some_iff.mp W2_
   by_cases cT7 : t7 = 0
   case neg => rw [if_neg cT7] at W2_; cases W2_
   have T7 := a_ T7_
   have cUa : (u.toList == s.toList) = true := beq_iff_eq.mpr cU
   have cUb : (u.toList != s.toList) = false := bne_eq_false_iff_eq.mpr cU
   have z7 : (t7 == 0) = true := beq_iff_eq.mpr cT7
   have z7b : (t7 != 0) = false := bne_eq_false_iff_eq.mpr cT7
   clear T7_ W2_ cT7 cU e3
   go_enter Tryd.func3, Tryd.ntmps3
   go_upto_region 13 with (first
    | ((with_reducible refine gate_dst (N := 2) rfl ?_); refine boxE_ 2 #[.int .i64 x0, .int .i64 x1, .slice Ax lx.length cx, .string x3] 24 ?_; intro g0 hg wb2 hbox hb; have E0 := a_ (gE_ hg : w.heap.size ≤ g0); have B0 := a_ hbox; (try clear z0 f4 z2 f5 z4 f6 z5 f7); obtain ⟨z0, z2, z4, z5, f4, f5, f6, f7⟩ := bx4_ B0.out; have hs_ := below_step hC_ hb; replace HB := a_ hs_; clear hs_ hb hbox hg)
    | ((with_reducible refine gate_dst (N := 19) rfl ?_); refine Kd.R_lit (borK15 w k24) _ 24 ?hg (N := 19) ?hd (xs := [(⟨x0, x1, lx, x3⟩ : S24)]) (inner := [.int .i64 x0, .int .i64 x1, .slice Ax lx.length cx, .string x3]) (ok := fun _ => True) (okp := fun _ => True) ?hr ?hp (fun _ hk => hk) trivial (Below.refl _ _) (Nat.le_refl _) (by simp) ?_; (case hd => rfl); (case hg => rfl); (case hr => first | (go_simp; done) | (go_simp; rfl)); (case hp => exact (Reps.c4 (show Kd.M (borK15 w k24) _ _ _ (⟨x0, x1, lx, x3⟩ : S24) [.int .i64 x0, .int .i64 x1, .slice Ax lx.length cx, .string x3] from (k24_mk w (⟨x0, x1, lx, x3⟩ : S24) HCx.out HRx.out)) (Reps.none _ _))); intro v_ wc1 hr1 hb hg_ hnew_; clear hg_ hnew_; (first | rw [← Nyl.out] at hr1 | (simp only [Int.reduceToNat] at hr1; rw [← Nyl.out] at hr1)); have hs_ := below_step hC_ hb; obtain ⟨AL, cL, rfl⟩ := Kd.R_slice hr1; have HOL := a_ (Kd.C_read (dm := borK15 w k24) (d := k24) rfl (fun _ _ h_ => Kd.K_below k24 hs_ h_) (Kd.R_reads' hr1).2.2); have HCL := a_ (Kd.R_reads' hr1).2.1; replace B0 := a_ (blk_below (g := g0) (o := .cells #[.int .i64 x0, .int .i64 x1, .slice Ax lx.length cx, .string x3] 24 (0, 0)) (by (with_reducible repeat (first | refine blk_drewN ?_ _ | refine blk_drew ?_ | refine blk_alloc ?_ _)); exact (hK_ B0.out)) hb); replace HB := a_ (Below.refl wc1.heap.size wc1); replace HRx := a_ (Kd.C_below HRx.out hs_); have X0 := a_ hs_; replace hG := GOK.below hG hs_; clear hs_ hb hr1; (try clear z0 f4 z2 f5 z4 f6 z5 f7); obtain ⟨z0, z2, z4, z5, f4, f5, f6, f7⟩ := bx4_ B0.out)
    | ((with_reducible refine gate_callee (f := 7) rfl ?_); refine goesL_ _ rfl rfl Tryd.func7 (by kernel_rfl) rfl #[.slice AL yl.length cL] rfl hL_ ?_; (with_reducible refine (sleuthlaw0_CopyNodes.calls k _ _ yl ly _ ?s1 ?s2 B1.out).mono ?_); (case s1 => exact (Kd.C_below HOL.out hC_)); (case s2 => exact HCL.out); rintro e w1 ⟨v0_, rfl, hs0, hb⟩; refine ⟨_, rfl, ?_⟩; have hs_ := below_step hC_ hb; obtain ⟨Ay, cy, rfl⟩ := Kd.S_slice hs0; have HRy := a_ (Kd.S_reads' hs0).2.2; have HCy := a_ (Kd.S_reads' hs0).2.1; replace HRx := a_ (Kd.C_below HRx.out hs_); replace HOL := a_ (Kd.C_below HOL.out hs_); replace B0 := a_ (blk_below B0.out hs_); have X1 := a_ hs_; replace hG := GOK.below hG hs_; have HX := a_ (Below.refl w1.heap.size w1); replace HB := a_ (Below.refl w1.heap.size w1); clear hs_ hb hs0; (try clear z0 f4 z2 f5 z4 f6 z5 f7); obtain ⟨z0, z2, z4, z5, f4, f5, f6, f7⟩ := bx4_ B0.out; obtain ⟨adA, AA, cA, edA, hxA0, hxA1, hxA2, hxA3, hlenA, hrowA⟩ := at_T24 HRy.out 0 (by omega) HcL.out; cases edA; (try simp only [show (0 : Int).toNat = 0 from rfl, Nat.zero_mul, Nat.mul_zero] at hxA0 hxA1 hxA2 hxA3); simp only [Addr.add, if_true, if_false, eq_false (show ¬ ((1 : Nat) = 0) by decide), eq_false (show ¬ ((2 : Nat) = 0) by decide), eq_false (show ¬ ((3 : Nat) = 0) by decide)] at hxA0 hxA1 hxA2 hxA3; have HLenA := a_ hlenA; have HRowA := a_ hrowA; have hqA := eq_true HcL.out; have hqnA := eq_true (show 0 < ly.length by have := HcL.out; omega); clear hlenA hrowA)
    | ((with_reducible refine gate_callee (f := 8) rfl ?_); refine goesL_ _ rfl rfl Tryd.func8 (by kernel_rfl) rfl #[.agg #[.int .i64 (rd_T24 ly 0).f0, .int .i64 (rd_T24 ly 0).f1, .slice AA (rd_T24 ly 0).f2.length cA, .string (rd_T24 ly 0).f3]] rfl hL_ ?_; (refine (record_Put.calls k (rd_T24 ly 0).f0 (rd_T24 ly 0).f1 _ _ (rd_T24 ly 0).f2 (rd_T24 ly 0).f3 p ea _ ?s1 ?s2 B2.out (GOK.below hG (below_step HX.out hC_))).mono ?_); (case s1 => exact (Kd.C_below HRowA.out hC_)); (case s2 => exact HLenA.out); rintro e wc3 ⟨rfl, hb⟩; refine ⟨_, rfl, ?_⟩; have hs_ := below_step hC_ hb; replace B0 := a_ (blk_below B0.out hs_); replace HX := a_ (below_step HX.out hs_); replace HB := a_ (Below.refl wc3.heap.size wc3); clear hs_ hb; (try clear z0 f4 z2 f5 z4 f6 z5 f7); obtain ⟨z0, z2, z4, z5, f4, f5, f6, f7⟩ := bx4_ B0.out)
    | ((with_reducible refine gate_callee (f := 9) rfl ?_); refine goesL_ _ rfl rfl Tryd.func9 (by kernel_rfl) rfl #[.agg #[.int .i64 x0, .int .i64 x1, .slice Ax lx.length cx, .string x3]] rfl hL_ ?_; (with_reducible refine (sleuthref12_PutRecord.calls k x0 x1 _ _ lx x3 q eb _ ?s1 ?s2 B3.out).mono ?_); (case s1 => exact (Kd.C_below HRx.out (below_step HX.out hC_))); (case s2 => exact HCx.out); rintro e wc4 ⟨rfl, hb⟩; refine ⟨_, rfl, ?_⟩; have hs_ := below_step hC_ hb; replace B0 := a_ (blk_below B0.out hs_); replace HX := a_ (below_step HX.out hs_); replace HB := a_ (Below.refl wc4.heap.size wc4); clear hs_ hb; (try clear z0 f4 z2 f5 z4 f6 z5 f7); obtain ⟨z0, z2, z4, z5, f4, f5, f6, f7⟩ := bx4_ B0.out)
    | ((with_reducible refine gate_callee (f := 10) rfl ?_); refine goesL_ _ rfl rfl Tryd.func10 (by kernel_rfl) rfl #[.string s] rfl hL_ ?_; (with_reducible refine (record_Get.calls k s c0 c1 c2 c3 ec _ B4.out (GOK.below hG (below_step HX.out hC_))).mono ?_); rintro e wc5 ⟨v0_, rfl, hr0, hb⟩; refine ⟨_, rfl, ?_⟩; have hs_ := below_step hC_ hb; obtain ⟨Ac, kc, rfl⟩ := Kd.R_slice hr0; have HOc := a_ (Kd.R_lower hr0 (below_size (below_step HX.out hC_))); replace B0 := a_ (blk_below B0.out hs_); replace HX := a_ (below_step HX.out hs_); replace HB := a_ (Below.refl wc5.heap.size wc5); clear hs_ hb hr0; (try clear z0 f4 z2 f5 z4 f6 z5 f7); obtain ⟨z0, z2, z4, z5, f4, f5, f6, f7⟩ := bx4_ B0.out)
    | ((with_reducible refine gate_dst (N := 10) rfl ?_); refine boxE_ 10 #[.int .i64 0, .int .i64 0, .slice none 0 0, .string ⟨#[]⟩] 24 ?_; intro g1 hg wb10 hbox hb; have E1 := a_ (gE_ hg : wc5.heap.size ≤ g1); have m0 := (bL_ B0.out hg : g0 ≠ g1); have m1 := (bG_ B0.out hg : g1 ≠ g0); have B10 := a_ hbox; (try clear z0 f4 z2 f5 z4 f6 z5 f7); obtain ⟨z0, z2, z4, z5, f4, f5, f6, f7⟩ := bx4_ (bB_ B0.out hb); (try clear z8 f8 z9 f9 z10 f10 z11 f11); obtain ⟨z8, z9, z10, z11, f8, f9, f10, f11⟩ := bx4_ B10.out; have hs_ := below_step hC_ hb; replace HB := a_ hs_; clear hs_ hb hbox hg)
    | ((with_reducible refine gate_callee (f := 11) rfl ?_); refine goesL_ _ rfl rfl Tryd.func11 (by kernel_rfl) rfl #[.string s] rfl hL_ ?_; (with_reducible refine (sleuthref12_GetRecord.calls k s d0 d1 d2 d3 ed _ B5.out).mono ?_); rintro e wc6 ⟨v0_, rfl, hr0, hb⟩; refine ⟨_, rfl, ?_⟩; have hs_ := below_step hC_ hb; obtain ⟨Ad, kd, rfl⟩ := Kd.R_slice hr0; have HOd := a_ (Kd.R_reads' hr0).2.2; have HCd := a_ (Kd.R_reads' hr0).2.1; replace HOc := a_ (Kd.R_below HOc.out hs_); replace B0 := a_ (blk_below B0.out hs_); replace B10 := a_ (blk_below (g := g1) (o := .cells #[.int .i64 c0, .int .i64 c1, .slice Ac c2.length kc, .string c3] 24 (0, 0)) (by (with_reducible repeat (first | refine blk_drewN ?_ _ | refine blk_drew ?_ | refine blk_alloc ?_ _)); exact (bP_ (bP_ (bP_ (bP_ (hK_ B10.out)))))) hb); replace HX := a_ (below_step HX.out hs_); replace HB := a_ (Below.refl wc6.heap.size wc6); clear hs_ hb hr0; (try clear z0 f4 z2 f5 z4 f6 z5 f7); obtain ⟨z0, z2, z4, z5, f4, f5, f6, f7⟩ := bx4_ B0.out; (try clear z8 f8 z9 f9 z10 f10 z11 f11); obtain ⟨z8, z9, z10, z11, f8, f9, f10, f11⟩ := bx4_ B10.out)
    | ((with_reducible refine gate_dst (N := 12) rfl ?_); refine boxE_ 12 #[.int .i64 0, .int .i64 0, .slice none 0 0, .string ⟨#[]⟩] 24 ?_; intro g2 hg wb12 hbox hb; have E2 := a_ (gE_ hg : wc6.heap.size ≤ g2); have m2 := (bL_ B0.out hg : g0 ≠ g2); have m3 := (bG_ B0.out hg : g2 ≠ g0); have m4 := (bL_ B10.out hg : g1 ≠ g2); have m5 := (bG_ B10.out hg : g2 ≠ g1); have B11 := a_ hbox; (try clear z0 f4 z2 f5 z4 f6 z5 f7); obtain ⟨z0, z2, z4, z5, f4, f5, f6, f7⟩ := bx4_ (bB_ B0.out hb); (try clear z8 f8 z9 f9 z10 f10 z11 f11); obtain ⟨z8, z9, z10, z11, f8, f9, f10, f11⟩ := bx4_ (bB_ B10.out hb); (try clear z12 f12 z13 f13 z14 f14 z15 f15); obtain ⟨z12, z13, z14, z15, f12, f13, f14, f15⟩ := bx4_ B11.out; have hs_ := below_step hC_ hb; replace HB := a_ hs_; clear hs_ hb hbox hg)
    | ((with_reducible refine gate_callee (f := 10) rfl ?_); refine goesL_ _ rfl rfl Tryd.func10 (by kernel_rfl) rfl #[.string p] rfl hL_ ?_; (with_reducible refine (record_Get.calls k p y0 y1 y2 y3 ey _ B6.out (GOK.below hG (below_step HX.out hC_))).mono ?_); rintro e wc7 ⟨v0_, rfl, hr0, hb⟩; refine ⟨_, rfl, ?_⟩; have hs_ := below_step hC_ hb; obtain ⟨Az, kz, rfl⟩ := Kd.R_slice hr0; have HOz := a_ (Kd.R_reads' hr0).2.2; have HCz := a_ (Kd.R_reads' hr0).2.1; replace HOc := a_ (Kd.R_below HOc.out hs_); replace HOd := a_ (Kd.C_below HOd.out hs_); replace B0 := a_ (blk_below B0.out hs_); replace B10 := a_ (blk_below B10.out hs_); replace B11 := a_ (blk_below (g := g2) (o := .cells #[.int .i64 d0, .int .i64 d1, .slice Ad d2.length kd, .string d3] 24 (0, 0)) (by (with_reducible repeat (first | refine blk_drewN ?_ _ | refine blk_drew ?_ | refine blk_alloc ?_ _)); exact (bP_ (bP_ (bP_ (bP_ (hK_ B11.out)))))) hb); replace HX := a_ (below_step HX.out hs_); replace HB := a_ (Below.refl wc7.heap.size wc7); clear hs_ hb hr0; (try clear z0 f4 z2 f5 z4 f6 z5 f7); obtain ⟨z0, z2, z4, z5, f4, f5, f6, f7⟩ := bx4_ B0.out; (try clear z8 f8 z9 f9 z10 f10 z11 f11); obtain ⟨z8, z9, z10, z11, f8, f9, f10, f11⟩ := bx4_ B10.out; (try clear z12 f12 z13 f13 z14 f14 z15 f15); obtain ⟨z12, z13, z14, z15, f12, f13, f14, f15⟩ := bx4_ B11.out)
    | ((with_reducible refine gate_dst (N := 14) rfl ?_); refine boxE_ 14 #[.int .i64 0, .int .i64 0, .slice none 0 0, .string ⟨#[]⟩] 24 ?_; intro g3 hg wb14 hbox hb; have E3 := a_ (gE_ hg : wc7.heap.size ≤ g3); have m6 := (bL_ B0.out hg : g0 ≠ g3); have m7 := (bG_ B0.out hg : g3 ≠ g0); have m8 := (bL_ B10.out hg : g1 ≠ g3); have m9 := (bG_ B10.out hg : g3 ≠ g1); have m10 := (bL_ B11.out hg : g2 ≠ g3); have m11 := (bG_ B11.out hg : g3 ≠ g2); have B12 := a_ hbox; (try clear z0 f4 z2 f5 z4 f6 z5 f7); obtain ⟨z0, z2, z4, z5, f4, f5, f6, f7⟩ := bx4_ (bB_ B0.out hb); (try clear z8 f8 z9 f9 z10 f10 z11 f11); obtain ⟨z8, z9, z10, z11, f8, f9, f10, f11⟩ := bx4_ (bB_ B10.out hb); (try clear z12 f12 z13 f13 z14 f14 z15 f15); obtain ⟨z12, z13, z14, z15, f12, f13, f14, f15⟩ := bx4_ (bB_ B11.out hb); (try clear z16 f16 z17 f17 z18 f18 z19 f19); obtain ⟨z16, z17, z18, z19, f16, f17, f18, f19⟩ := bx4_ B12.out; have hs_ := below_step hC_ hb; replace HB := a_ hs_; clear hs_ hb hbox hg)
    | ((with_reducible refine gate_callee (f := 8) rfl ?_); refine goesL_ _ rfl rfl Tryd.func8 (by kernel_rfl) rfl #[.agg #[.int .i64 c0, .int .i64 c1, .slice Ac c2.length kc, .string c3]] rfl hL_ ?_; (refine (record_Put.calls k c0 c1 _ _ c2 c3 u eu _ ?s1 ?s2 B7.out (GOK.below hG (below_step HX.out hC_))).mono ?_); (case s1 => exact (Kd.R_reads' (Kd.R_below HOc.out hC_)).2.2); (case s2 => exact (Kd.R_reads' HOc.out).2.1); rintro e wc8 ⟨rfl, hb⟩; refine ⟨_, rfl, ?_⟩; have hs_ := below_step hC_ hb; replace HOc := a_ (Kd.R_below HOc.out hs_); replace HOd := a_ (Kd.C_below HOd.out hs_); replace HOz := a_ (Kd.C_below HOz.out hs_); replace B0 := a_ (blk_below B0.out hs_); replace B10 := a_ (blk_below B10.out hs_); replace B11 := a_ (blk_below B11.out hs_); replace B12 := a_ (blk_below (g := g3) (o := .cells #[.int .i64 y0, .int .i64 y1, .slice Az y2.length kz, .string y3] 24 (0, 0)) (by (with_reducible repeat (first | refine blk_drewN ?_ _ | refine blk_drew ?_ | refine blk_alloc ?_ _)); exact (bP_ (bP_ (bP_ (bP_ (hK_ B12.out)))))) hb); replace HX := a_ (below_step HX.out hs_); replace HB := a_ (Below.refl wc8.heap.size wc8); clear hs_ hb; (try clear z0 f4 z2 f5 z4 f6 z5 f7); obtain ⟨z0, z2, z4, z5, f4, f5, f6, f7⟩ := bx4_ B0.out; (try clear z8 f8 z9 f9 z10 f10 z11 f11); obtain ⟨z8, z9, z10, z11, f8, f9, f10, f11⟩ := bx4_ B10.out; (try clear z12 f12 z13 f13 z14 f14 z15 f15); obtain ⟨z12, z13, z14, z15, f12, f13, f14, f15⟩ := bx4_ B11.out; (try clear z16 f16 z17 f17 z18 f18 z19 f19); obtain ⟨z16, z17, z18, z19, f16, f17, f18, f19⟩ := bx4_ B12.out)
    | (go_at_call 12; (with_reducible refine (sleuthlaw0_Num.calls ea t1 _ T1.out).mono ?_); rintro e w' ⟨rfl, ⟨nq_, rfl⟩⟩)
    | (go_at_call 13; (with_reducible refine (sleuthlaw0_SameNode.calls k c0 c1 _ _ c2 c3 d0 d1 _ _ d2 d3 true _ ?s1 ?s2 ?s3 ?s4 T2.out).mono ?_); (case s1 => exact (Kd.R_reads' (Kd.R_below HOc.out hC_)).2.2); (case s2 => exact (Kd.R_reads' HOc.out).2.1); (case s3 => exact (Kd.C_below HOd.out hC_)); (case s4 => exact HCd.out); rintro e wc9 ⟨rfl, hb⟩; have hs_ := below_step hC_ hb; replace HOc := a_ (Kd.R_below HOc.out hs_); replace HOd := a_ (Kd.C_below HOd.out hs_); replace HOz := a_ (Kd.C_below HOz.out hs_); replace B0 := a_ (blk_below B0.out hs_); replace B10 := a_ (blk_below B10.out hs_); replace B11 := a_ (blk_below B11.out hs_); replace B12 := a_ (blk_below B12.out hs_); replace HX := a_ (below_step HX.out hs_); replace HB := a_ (Below.refl wc9.heap.size wc9); clear hs_ hb; (try clear z0 f4 z2 f5 z4 f6 z5 f7); obtain ⟨z0, z2, z4, z5, f4, f5, f6, f7⟩ := bx4_ B0.out; (try clear z8 f8 z9 f9 z10 f10 z11 f11); obtain ⟨z8, z9, z10, z11, f8, f9, f10, f11⟩ := bx4_ B10.out; (try clear z12 f12 z13 f13 z14 f14 z15 f15); obtain ⟨z12, z13, z14, z15, f12, f13, f14, f15⟩ := bx4_ B11.out; (try clear z16 f16 z17 f17 z18 f18 z19 f19); obtain ⟨z16, z17, z18, z19, f16, f17, f18, f19⟩ := bx4_ B12.out)
    | (go_at_call 12; (with_reducible refine (sleuthlaw0_Num.calls ec t3 _ T3.out).mono ?_); rintro e w' ⟨rfl, ⟨nq_, rfl⟩⟩)
    | ((with_reducible refine gate_callee (f := 12) rfl ?_); refine goesL_ _ rfl rfl Tryd.func12 (by kernel_rfl) rfl #[.int .i64 ea] rfl hL_ ?_; (with_reducible refine (sleuthlaw0_Num.calls ea t1 _ T1.out).mono ?_); rintro e w' ⟨rfl, ⟨nq_, rfl⟩⟩; refine ⟨_, rfl, ?_⟩)
    | (go_at_call 13; (with_reducible refine (sleuthlaw0_SameNode.calls k y0 y1 _ _ y2 y3 x0 x1 _ _ lx x3 true _ ?s1 ?s2 ?s3 ?s4 T5.out).mono ?_); (case s1 => exact (Kd.C_below HOz.out hC_)); (case s2 => exact HCz.out); (case s3 => exact (Kd.C_below HRx.out (below_step HX.out hC_))); (case s4 => exact HCx.out); rintro e wc10 ⟨rfl, hb⟩; have hs_ := below_step hC_ hb; replace HOc := a_ (Kd.R_below HOc.out hs_); replace HOd := a_ (Kd.C_below HOd.out hs_); replace HOz := a_ (Kd.C_below HOz.out hs_); replace B0 := a_ (blk_below B0.out hs_); replace B10 := a_ (blk_below B10.out hs_); replace B11 := a_ (blk_below B11.out hs_); replace B12 := a_ (blk_below B12.out hs_); replace HX := a_ (below_step HX.out hs_); replace HB := a_ (Below.refl wc10.heap.size wc10); clear hs_ hb; (try clear z0 f4 z2 f5 z4 f6 z5 f7); obtain ⟨z0, z2, z4, z5, f4, f5, f6, f7⟩ := bx4_ B0.out; (try clear z8 f8 z9 f9 z10 f10 z11 f11); obtain ⟨z8, z9, z10, z11, f8, f9, f10, f11⟩ := bx4_ B10.out; (try clear z12 f12 z13 f13 z14 f14 z15 f15); obtain ⟨z12, z13, z14, z15, f12, f13, f14, f15⟩ := bx4_ B11.out; (try clear z16 f16 z17 f17 z18 f18 z19 f19); obtain ⟨z16, z17, z18, z19, f16, f17, f18, f19⟩ := bx4_ B12.out)
    | (go_at_call 12; (with_reducible refine (sleuthlaw0_Num.calls ey t6 _ T6.out).mono ?_); rintro e w' ⟨rfl, ⟨nq_, rfl⟩⟩)
    | (go_at_call 12; (with_reducible refine (sleuthlaw0_Num.calls ec t3 _ T3.out).mono ?_); rintro e w' ⟨rfl, ⟨nq_, rfl⟩⟩)
    | (go_at_call 12; (with_reducible refine (sleuthlaw0_Num.calls eu t7 _ T7.out).mono ?_); rintro e w' ⟨rfl, ⟨nq_, rfl⟩⟩)
    | ((with_reducible refine gate_callee (f := 14) rfl ?_); refine goesL_ _ rfl rfl Tryd.func14 (by kernel_rfl) rfl #[.slice Ac c2.length kc] rfl hL_ ?_; (with_reducible refine (sleuthlaw0_SpoilTexts.calls k _ _ c2 cs w1 _ (below_step HX.out hC_) (Kd.R_tight rfl (Kd.R_below HOc.out hC_)) B8.out).mono ?_); rintro e wc11 ⟨rfl, _, hb, hk⟩; refine ⟨_, rfl, ?_⟩; replace B0 := a_ (blk_kept (g := g0) (o := .cells #[.int .i64 x0, .int .i64 x1, .slice Ax lx.length cx, .string x3] 24 (0, 0)) (blk_below B0.out hC_) hk (fun h1_ => (Kd.R_typed (Kd.R_below HOc.out hC_) _ h1_.symm).elim (fun _ h2_ => types_no15 (blk_below B0.out hC_) (by decide) ⟨_, List.mem_singleton.2 rfl, _, h2_⟩))); replace B10 := a_ (blk_kept (g := g1) (o := .cells #[.int .i64 c0, .int .i64 c1, .slice Ac c2.length kc, .string c3] 24 (0, 0)) (blk_below B10.out hC_) hk (fun h1_ => (Kd.R_typed (Kd.R_below HOc.out hC_) _ h1_.symm).elim (fun _ h2_ => types_no15 (blk_below B10.out hC_) (by decide) ⟨_, List.mem_singleton.2 rfl, _, h2_⟩))); replace B11 := a_ (blk_kept (g := g2) (o := .cells #[.int .i64 d0, .int .i64 d1, .slice Ad d2.length kd, .string d3] 24 (0, 0)) (blk_below B11.out hC_) hk (fun h1_ => (Kd.R_typed (Kd.R_below HOc.out hC_) _ h1_.symm).elim (fun _ h2_ => types_no15 (blk_below B11.out hC_) (by decide) ⟨_, List.mem_singleton.2 rfl, _, h2_⟩))); replace B12 := a_ (blk_kept (g := g3) (o := .cells #[.int .i64 y0, .int .i64 y1, .slice Az y2.length kz, .string y3] 24 (0, 0)) (blk_below B12.out hC_) hk (fun h1_ => (Kd.R_typed (Kd.R_below HOc.out hC_) _ h1_.symm).elim (fun _ h2_ => types_no15 (blk_below B12.out hC_) (by decide) ⟨_, List.mem_singleton.2 rfl, _, h2_⟩))); replace HX := a_ hb; replace HB := a_ (Below.refl wc11.heap.size wc11); clear hb hk HOc; (try clear z0 f4 z2 f5 z4 f6 z5 f7); obtain ⟨z0, z2, z4, z5, f4, f5, f6, f7⟩ := bx4_ B0.out; (try clear z8 f8 z9 f9 z10 f10 z11 f11); obtain ⟨z8, z9, z10, z11, f8, f9, f10, f11⟩ := bx4_ B10.out; (try clear z12 f12 z13 f13 z14 f14 z15 f15); obtain ⟨z12, z13, z14, z15, f12, f13, f14, f15⟩ := bx4_ B11.out; (try clear z16 f16 z17 f17 z18 f18 z19 f19); obtain ⟨z16, z17, z18, z19, f16, f17, f18, f19⟩ := bx4_ B12.out; obtain ⟨adE, AE, cE, edE, hxE0, hxE1, hxE2, hxE3, hlenE, hrowE⟩ := at_T24 (Kd.C_below HRy.out HX.out) 0 (by omega) HcL.out; cases edE; (try simp only [show (0 : Int).toNat = 0 from rfl, Nat.zero_mul, Nat.mul_zero] at hxE0 hxE1 hxE2 hxE3); simp only [Addr.add, if_true, if_false, eq_false (show ¬ ((1 : Nat) = 0) by decide), eq_false (show ¬ ((2 : Nat) = 0) by decide), eq_false (show ¬ ((3 : Nat) = 0) by decide)] at hxE0 hxE1 hxE2 hxE3; have HLenE := a_ hlenE; have HRowE := a_ hrowE; have hqE := eq_true HcL.out; have hqnE := eq_true (show 0 < ly.length by have := HcL.out; omega); clear hlenE hrowE))
   refine start_ (n := 9) (S := fun w' => w'.cell? ⟨g0, 0, none⟩ = some (.int .i64 x0) ∧ w'.cell? ⟨g0, 1, none⟩ = some (.int .i64 x1) ∧ w'.cell? ⟨g0, 2, none⟩ = some (.slice Ax lx.length cx) ∧ w'.cell? ⟨g0, 3, none⟩ = some (.string x3) ∧ w'.cell? ⟨g1, 0, none⟩ = some (.int .i64 c0) ∧ w'.cell? ⟨g1, 1, none⟩ = some (.int .i64 c1) ∧ w'.cell? ⟨g1, 2, none⟩ = some (.slice Ac c2.length kc) ∧ w'.cell? ⟨g1, 3, none⟩ = some (.string c3) ∧ w'.cell? ⟨g2, 0, none⟩ = some (.int .i64 d0) ∧ w'.cell? ⟨g2, 1, none⟩ = some (.int .i64 d1) ∧ w'.cell? ⟨g2, 2, none⟩ = some (.slice Ad d2.length kd) ∧ w'.cell? ⟨g2, 3, none⟩ = some (.string d3) ∧ w'.cell? ⟨g3, 0, none⟩ = some (.int .i64 y0) ∧ w'.cell? ⟨g3, 1, none⟩ = some (.int .i64 y1) ∧ w'.cell? ⟨g3, 2, none⟩ = some (.slice Az y2.length kz) ∧ w'.cell? ⟨g3, 3, none⟩ = some (.string y3)) (ds := []) #[false, false, false, false, false, false, false, false, false] (by kernel_rfl) rfl rfl ⟨(blk_cell B0.out 0).trans rfl, (blk_cell B0.out 1).trans rfl, (blk_cell B0.out 2).trans rfl, (blk_cell B0.out 3).trans rfl, (blk_cell B10.out 0).trans rfl, (blk_cell B10.out 1).trans rfl, (blk_cell B10.out 2).trans rfl, (blk_cell B10.out 3).trans rfl, (blk_cell B11.out 0).trans rfl, (blk_cell B11.out 1).trans rfl, (blk_cell B11.out 2).trans rfl, (blk_cell B11.out 3).trans rfl, (blk_cell B12.out 0).trans rfl, (blk_cell B12.out 1).trans rfl, (blk_cell B12.out 2).trans rfl, (blk_cell B12.out 3).trans rfl⟩ (fun hHeld => ?_)
   refine with_tabW sleuthlaw15_Records.tab13 sleuthlaw15_Records.bits13 (fun HT_ HW_ => ?_)
   refine tB_ 3 109 HT_.out HW_.out hHeld ?_
   refine pB_ 0 106 HT_.out ?_
   refine pB_ 1 107 HT_.out ?_
   refine one_ (i := 2) (N := some 108) #[true, true, true, true, false, false, false, false, false] rfl rfl (one_of HT_.out (by kernel_rfl)) (by decide) (fun K hK => ?_)
   refine value_ (w1 := ?_) (v := ?_) (by rfl) rfl ?_ ?_
   rotate_left 2
   · go_simp
     constructor
     · rfl
     · rfl
   refine hK.out _ _ ⟨(blk_cell B0.out 0).trans rfl, (blk_cell B0.out 1).trans rfl, (blk_cell B0.out 2).trans rfl, (blk_cell B0.out 3).trans rfl, (blk_cell B10.out 0).trans rfl, (blk_cell B10.out 1).trans rfl, (blk_cell B10.out 2).trans rfl, (blk_cell B10.out 3).trans rfl, (blk_cell B11.out 0).trans rfl, (blk_cell B11.out 1).trans rfl, (blk_cell B11.out 2).trans rfl, (blk_cell B11.out 3).trans rfl, (blk_cell B12.out 0).trans rfl, (blk_cell B12.out 1).trans rfl, (blk_cell B12.out 2).trans rfl, (blk_cell B12.out 3).trans rfl⟩ (fun hHeld => ?_)
   clear hK K
   refine norm_ (a' := ?_) ?_ ?_
   rotate_left
   · show Act.put _ (some 108) _ = _
     simp only [Act.put, List.setIfInBounds_toArray, List.set_cons_zero, List.set_cons_succ, i64_w, i32_w]
     rfl
   refine one_ (i := 4) (N := some 110) #[true, true, true, true, true, false, false, false, false] rfl rfl (one_of HT_.out (by kernel_rfl)) (by decide) (fun K hK => ?_)
   refine goes_ Tryd.func13 (by kernel_rfl) rfl #[.agg #[.int .i64 (rd_T24 ly 0).f0, .int .i64 (rd_T24 ly 0).f1, .slice AE (rd_T24 ly 0).f2.length cE, .string (rd_T24 ly 0).f3], .agg #[.int .i64 x0, .int .i64 x1, .slice Ax lx.length cx, .string x3]] (by rfl) rfl rfl hL_ ?_
   (with_reducible refine (sleuthlaw0_SameNode.calls k (rd_T24 ly 0).f0 (rd_T24 ly 0).f1 _ _ (rd_T24 ly 0).f2 (rd_T24 ly 0).f3 x0 x1 _ _ lx x3 true _ ?s1 ?s2 ?s3 ?s4 T8.out).mono ?_)
   (case s1 => exact (Kd.C_below HRowE.out hC_))
   (case s2 => exact HLenE.out)
   (case s3 => exact (Kd.C_below HRx.out (below_step HX.out hC_)))
   (case s4 => exact HCx.out)
   rintro e wc12 ⟨rfl, hb⟩
   refine ⟨_, rfl, ?_⟩
   have hs_ := below_step hC_ hb
   replace B0 := a_ (blk_below B0.out hs_)
   replace B10 := a_ (blk_below B10.out hs_)
   replace B11 := a_ (blk_below B11.out hs_)
   replace B12 := a_ (blk_below B12.out hs_)
   replace HX := a_ (below_step HX.out hs_)
   replace HB := a_ (Below.refl wc12.heap.size wc12)
   clear hs_ hb
   refine hK.out _ _ ⟨(blk_cell B0.out 0).trans rfl, (blk_cell B0.out 1).trans rfl, (blk_cell B0.out 2).trans rfl, (blk_cell B0.out 3).trans rfl, (blk_cell B10.out 0).trans rfl, (blk_cell B10.out 1).trans rfl, (blk_cell B10.out 2).trans rfl, (blk_cell B10.out 3).trans rfl, (blk_cell B11.out 0).trans rfl, (blk_cell B11.out 1).trans rfl, (blk_cell B11.out 2).trans rfl, (blk_cell B11.out 3).trans rfl, (blk_cell B12.out 0).trans rfl, (blk_cell B12.out 1).trans rfl, (blk_cell B12.out 2).trans rfl, (blk_cell B12.out 3).trans rfl⟩ (fun hHeld => ?_)
   clear hK K
   refine norm_ (a' := ?_) ?_ ?_
   rotate_left
   · show Act.put _ (some 110) _ = _
     simp only [Act.put, List.setIfInBounds_toArray, List.set_cons_zero, List.set_cons_succ, i64_w, i32_w]
     rfl
   refine pB_ 5 111 HT_.out ?_
   refine one_ (i := 6) (N := some 112) #[true, true, true, true, true, true, true, false, false] rfl rfl (one_of HT_.out (by kernel_rfl)) (by decide) (fun K hK => ?_)
   refine goes_ Tryd.func15 (by kernel_rfl) rfl #[] (by rfl) rfl rfl hL_ ?_
   (with_reducible refine (sleuthlaw15_awake.calls k r _ B9.out (GOK.below hG (below_step HX.out hC_))).mono ?_)
   rintro e wc13 ⟨rfl, hb⟩
   refine ⟨_, rfl, ?_⟩
   have hs_ := below_step hC_ hb
   replace B0 := a_ (blk_below B0.out hs_)
   replace B10 := a_ (blk_below B10.out hs_)
   replace B11 := a_ (blk_below B11.out hs_)
   replace B12 := a_ (blk_below B12.out hs_)
   replace HX := a_ (below_step HX.out hs_)
   replace HB := a_ (Below.refl wc13.heap.size wc13)
   clear hs_ hb
   refine hK.out _ _ ⟨(blk_cell B0.out 0).trans rfl, (blk_cell B0.out 1).trans rfl, (blk_cell B0.out 2).trans rfl, (blk_cell B0.out 3).trans rfl, (blk_cell B10.out 0).trans rfl, (blk_cell B10.out 1).trans rfl, (blk_cell B10.out 2).trans rfl, (blk_cell B10.out 3).trans rfl, (blk_cell B11.out 0).trans rfl, (blk_cell B11.out 1).trans rfl, (blk_cell B11.out 2).trans rfl, (blk_cell B11.out 3).trans rfl, (blk_cell B12.out 0).trans rfl, (blk_cell B12.out 1).trans rfl, (blk_cell B12.out 2).trans rfl, (blk_cell B12.out 3).trans rfl⟩ (fun hHeld => ?_)
   clear hK K
   refine norm_ (a' := ?_) ?_ ?_
   rotate_left
   · show Act.put _ (some 112) _ = _
     simp only [Act.put, List.setIfInBounds_toArray, List.set_cons_zero, List.set_cons_succ, i64_w, i32_w]
     rfl
   refine pB_ 7 113 HT_.out ?_
   refine pB_ 8 4 HT_.out ?_
   refine done_ (done_of HT_.out (by kernel_rfl)) ?_
   (try clear z0 f4 z2 f5 z4 f6 z5 f7)
   obtain ⟨z0, z2, z4, z5, f4, f5, f6, f7⟩ := bx4_ B0.out
   (try clear z8 f8 z9 f9 z10 f10 z11 f11)
   obtain ⟨z8, z9, z10, z11, f8, f9, f10, f11⟩ := bx4_ B10.out
   (try clear z12 f12 z13 f13 z14 f14 z15 f15)
   obtain ⟨z12, z13, z14, z15, f12, f13, f14, f15⟩ := bx4_ B11.out
   (try clear z16 f16 z17 f17 z18 f18 z19 f19)
   obtain ⟨z16, z17, z18, z19, f16, f17, f18, f19⟩ := bx4_ B12.out
   try go_wp2
   go_ret
   exact ⟨hV_, below_step X0.out (below_step X1.out (below_step HX.out hC_))⟩
  case neg =>
   have z1 : (t1 == 0) = true := beq_iff_eq.mpr e1
   rw [if_pos e1] at W1_
   obtain ⟨t5, T5_, W1_⟩ := Option.bind_eq_some_iff.mp W1_
   by_cases cT5 : t5 = true
   case neg => rw [if_neg cT5] at W1_; cases W1_
   rw [if_pos cT5] at W1_
   subst cT5
   obtain ⟨t6, T6_, W1_⟩ := Option.bind_eq_some_iff.mp W1_
   by_cases cT6 : t6 = 0
   case neg => rw [if_neg cT6] at W1_; cases W1_
   have T5 := a_ T5_
   have T6 := a_ T6_
   have z6 : (t6 == 0) = true := beq_iff_eq.mpr cT6
   have z6b : (t6 != 0) = false := bne_eq_false_iff_eq.mpr cT6
   clear T5_ T6_ W1_ cT6 e1
   have z3 : (t3 == 0) = false := beq_eq_false_iff_ne.mpr e3
   clear W2_ e3
   go_enter Tryd.func3, Tryd.ntmps3
   go_upto_region 13 with (first
    | ((with_reducible refine gate_dst (N := 2) rfl ?_); refine boxE_ 2 #[.int .i64 x0, .int .i64 x1, .slice Ax lx.length cx, .string x3] 24 ?_; intro g0 hg wb2 hbox hb; have E0 := a_ (gE_ hg : w.heap.size ≤ g0); have B0 := a_ hbox; (try clear z0 f4 z2 f5 z4 f6 z5 f7); obtain ⟨z0, z2, z4, z5, f4, f5, f6, f7⟩ := bx4_ B0.out; have hs_ := below_step hC_ hb; replace HB := a_ hs_; clear hs_ hb hbox hg)
    | ((with_reducible refine gate_dst (N := 19) rfl ?_); refine Kd.R_lit (borK15 w k24) _ 24 ?hg (N := 19) ?hd (xs := [(⟨x0, x1, lx, x3⟩ : S24)]) (inner := [.int .i64 x0, .int .i64 x1, .slice Ax lx.length cx, .string x3]) (ok := fun _ => True) (okp := fun _ => True) ?hr ?hp (fun _ hk => hk) trivial (Below.refl _ _) (Nat.le_refl _) (by simp) ?_; (case hd => rfl); (case hg => rfl); (case hr => first | (go_simp; done) | (go_simp; rfl)); (case hp => exact (Reps.c4 (show Kd.M (borK15 w k24) _ _ _ (⟨x0, x1, lx, x3⟩ : S24) [.int .i64 x0, .int .i64 x1, .slice Ax lx.length cx, .string x3] from (k24_mk w (⟨x0, x1, lx, x3⟩ : S24) HCx.out HRx.out)) (Reps.none _ _))); intro v_ wc1 hr1 hb hg_ hnew_; clear hg_ hnew_; (first | rw [← Nyl.out] at hr1 | (simp only [Int.reduceToNat] at hr1; rw [← Nyl.out] at hr1)); have hs_ := below_step hC_ hb; obtain ⟨AL, cL, rfl⟩ := Kd.R_slice hr1; have HOL := a_ (Kd.C_read (dm := borK15 w k24) (d := k24) rfl (fun _ _ h_ => Kd.K_below k24 hs_ h_) (Kd.R_reads' hr1).2.2); have HCL := a_ (Kd.R_reads' hr1).2.1; replace B0 := a_ (blk_below (g := g0) (o := .cells #[.int .i64 x0, .int .i64 x1, .slice Ax lx.length cx, .string x3] 24 (0, 0)) (by (with_reducible repeat (first | refine blk_drewN ?_ _ | refine blk_drew ?_ | refine blk_alloc ?_ _)); exact (hK_ B0.out)) hb); replace HB := a_ (Below.refl wc1.heap.size wc1); replace HRx := a_ (Kd.C_below HRx.out hs_); have X0 := a_ hs_; replace hG := GOK.below hG hs_; clear hs_ hb hr1; (try clear z0 f4 z2 f5 z4 f6 z5 f7); obtain ⟨z0, z2, z4, z5, f4, f5, f6, f7⟩ := bx4_ B0.out)
    | ((with_reducible refine gate_callee (f := 7) rfl ?_); refine goesL_ _ rfl rfl Tryd.func7 (by kernel_rfl) rfl #[.slice AL yl.length cL] rfl hL_ ?_; (with_reducible refine (sleuthlaw0_CopyNodes.calls k _ _ yl ly _ ?s1 ?s2 B1.out).mono ?_); (case s1 => exact (Kd.C_below HOL.out hC_)); (case s2 => exact HCL.out); rintro e w1 ⟨v0_, rfl, hs0, hb⟩; refine ⟨_, rfl, ?_⟩; have hs_ := below_step hC_ hb; obtain ⟨Ay, cy, rfl⟩ := Kd.S_slice hs0; have HRy := a_ (Kd.S_reads' hs0).2.2; have HCy := a_ (Kd.S_reads' hs0).2.1; replace HRx := a_ (Kd.C_below HRx.out hs_); replace HOL := a_ (Kd.C_below HOL.out hs_); replace B0 := a_ (blk_below B0.out hs_); have X1 := a_ hs_; replace hG := GOK.below hG hs_; have HX := a_ (Below.refl w1.heap.size w1); replace HB := a_ (Below.refl w1.heap.size w1); clear hs_ hb hs0; (try clear z0 f4 z2 f5 z4 f6 z5 f7); obtain ⟨z0, z2, z4, z5, f4, f5, f6, f7⟩ := bx4_ B0.out; obtain ⟨adA, AA, cA, edA, hxA0, hxA1, hxA2, hxA3, hlenA, hrowA⟩ := at_T24 HRy.out 0 (by omega) HcL.out; cases edA; (try simp only [show (0 : Int).toNat = 0 from rfl, Nat.zero_mul, Nat.mul_zero] at hxA0 hxA1 hxA2 hxA3); simp only [Addr.add, if_true, if_false, eq_false (show ¬ ((1 : Nat) = 0) by decide), eq_false (show ¬ ((2 : Nat) = 0) by decide), eq_false (show ¬ ((3 : Nat) = 0) by decide)] at hxA0 hxA1 hxA2 hxA3; have HLenA := a_ hlenA; have HRowA := a_ hrowA; have hqA := eq_true HcL.out; have hqnA := eq_true (show 0 < ly.length by have := HcL.out; omega); clear hlenA hrowA)
    | ((with_reducible refine gate_callee (f := 8) rfl ?_); refine goesL_ _ rfl rfl Tryd.func8 (by kernel_rfl) rfl #[.agg #[.int .i64 (rd_T24 ly 0).f0, .int .i64 (rd_T24 ly 0).f1, .slice AA (rd_T24 ly 0).f2.length cA, .string (rd_T24 ly 0).f3]] rfl hL_ ?_; (refine (record_Put.calls k (rd_T24 ly 0).f0 (rd_T24 ly 0).f1 _ _ (rd_T24 ly 0).f2 (rd_T24 ly 0).f3 p ea _ ?s1 ?s2 B2.out (GOK.below hG (below_step HX.out hC_))).mono ?_); (case s1 => exact (Kd.C_below HRowA.out hC_)); (case s2 => exact HLenA.out); rintro e wc3 ⟨rfl, hb⟩; refine ⟨_, rfl, ?_⟩; have hs_ := below_step hC_ hb; replace B0 := a_ (blk_below B0.out hs_); replace HX := a_ (below_step HX.out hs_); replace HB := a_ (Below.refl wc3.heap.size wc3); clear hs_ hb; (try clear z0 f4 z2 f5 z4 f6 z5 f7); obtain ⟨z0, z2, z4, z5, f4, f5, f6, f7⟩ := bx4_ B0.out)
    | ((with_reducible refine gate_callee (f := 9) rfl ?_); refine goesL_ _ rfl rfl Tryd.func9 (by kernel_rfl) rfl #[.agg #[.int .i64 x0, .int .i64 x1, .slice Ax lx.length cx, .string x3]] rfl hL_ ?_; (with_reducible refine (sleuthref12_PutRecord.calls k x0 x1 _ _ lx x3 q eb _ ?s1 ?s2 B3.out).mono ?_); (case s1 => exact (Kd.C_below HRx.out (below_step HX.out hC_))); (case s2 => exact HCx.out); rintro e wc4 ⟨rfl, hb⟩; refine ⟨_, rfl, ?_⟩; have hs_ := below_step hC_ hb; replace B0 := a_ (blk_below B0.out hs_); replace HX := a_ (below_step HX.out hs_); replace HB := a_ (Below.refl wc4.heap.size wc4); clear hs_ hb; (try clear z0 f4 z2 f5 z4 f6 z5 f7); obtain ⟨z0, z2, z4, z5, f4, f5, f6, f7⟩ := bx4_ B0.out)
    | ((with_reducible refine gate_callee (f := 10) rfl ?_); refine goesL_ _ rfl rfl Tryd.func10 (by kernel_rfl) rfl #[.string s] rfl hL_ ?_; (with_reducible refine (record_Get.calls k s c0 c1 c2 c3 ec _ B4.out (GOK.below hG (below_step HX.out hC_))).mono ?_); rintro e wc5 ⟨v0_, rfl, hr0, hb⟩; refine ⟨_, rfl, ?_⟩; have hs_ := below_step hC_ hb; obtain ⟨Ac, kc, rfl⟩ := Kd.R_slice hr0; have HOc := a_ (Kd.R_lower hr0 (below_size (below_step HX.out hC_))); replace B0 := a_ (blk_below B0.out hs_); replace HX := a_ (below_step HX.out hs_); replace HB := a_ (Below.refl wc5.heap.size wc5); clear hs_ hb hr0; (try clear z0 f4 z2 f5 z4 f6 z5 f7); obtain ⟨z0, z2, z4, z5, f4, f5, f6, f7⟩ := bx4_ B0.out)
    | ((with_reducible refine gate_dst (N := 10) rfl ?_); refine boxE_ 10 #[.int .i64 0, .int .i64 0, .slice none 0 0, .string ⟨#[]⟩] 24 ?_; intro g1 hg wb10 hbox hb; have E1 := a_ (gE_ hg : wc5.heap.size ≤ g1); have m0 := (bL_ B0.out hg : g0 ≠ g1); have m1 := (bG_ B0.out hg : g1 ≠ g0); have B10 := a_ hbox; (try clear z0 f4 z2 f5 z4 f6 z5 f7); obtain ⟨z0, z2, z4, z5, f4, f5, f6, f7⟩ := bx4_ (bB_ B0.out hb); (try clear z8 f8 z9 f9 z10 f10 z11 f11); obtain ⟨z8, z9, z10, z11, f8, f9, f10, f11⟩ := bx4_ B10.out; have hs_ := below_step hC_ hb; replace HB := a_ hs_; clear hs_ hb hbox hg)
    | ((with_reducible refine gate_callee (f := 11) rfl ?_); refine goesL_ _ rfl rfl Tryd.func11 (by kernel_rfl) rfl #[.string s] rfl hL_ ?_; (with_reducible refine (sleuthref12_GetRecord.calls k s d0 d1 d2 d3 ed _ B5.out).mono ?_); rintro e wc6 ⟨v0_, rfl, hr0, hb⟩; refine ⟨_, rfl, ?_⟩; have hs_ := below_step hC_ hb; obtain ⟨Ad, kd, rfl⟩ := Kd.R_slice hr0; have HOd := a_ (Kd.R_reads' hr0).2.2; have HCd := a_ (Kd.R_reads' hr0).2.1; replace HOc := a_ (Kd.R_below HOc.out hs_); replace B0 := a_ (blk_below B0.out hs_); replace B10 := a_ (blk_below (g := g1) (o := .cells #[.int .i64 c0, .int .i64 c1, .slice Ac c2.length kc, .string c3] 24 (0, 0)) (by (with_reducible repeat (first | refine blk_drewN ?_ _ | refine blk_drew ?_ | refine blk_alloc ?_ _)); exact (bP_ (bP_ (bP_ (bP_ (hK_ B10.out)))))) hb); replace HX := a_ (below_step HX.out hs_); replace HB := a_ (Below.refl wc6.heap.size wc6); clear hs_ hb hr0; (try clear z0 f4 z2 f5 z4 f6 z5 f7); obtain ⟨z0, z2, z4, z5, f4, f5, f6, f7⟩ := bx4_ B0.out; (try clear z8 f8 z9 f9 z10 f10 z11 f11); obtain ⟨z8, z9, z10, z11, f8, f9, f10, f11⟩ := bx4_ B10.out)
    | ((with_reducible refine gate_dst (N := 12) rfl ?_); refine boxE_ 12 #[.int .i64 0, .int .i64 0, .slice none 0 0, .string ⟨#[]⟩] 24 ?_; intro g2 hg wb12 hbox hb; have E2 := a_ (gE_ hg : wc6.heap.size ≤ g2); have m2 := (bL_ B0.out hg : g0 ≠ g2); have m3 := (bG_ B0.out hg : g2 ≠ g0); have m4 := (bL_ B10.out hg : g1 ≠ g2); have m5 := (bG_ B10.out hg : g2 ≠ g1); have B11 := a_ hbox; (try clear z0 f4 z2 f5 z4 f6 z5 f7); obtain ⟨z0, z2, z4, z5, f4, f5, f6, f7⟩ := bx4_ (bB_ B0.out hb); (try clear z8 f8 z9 f9 z10 f10 z11 f11); obtain ⟨z8, z9, z10, z11, f8, f9, f10, f11⟩ := bx4_ (bB_ B10.out hb); (try clear z12 f12 z13 f13 z14 f14 z15 f15); obtain ⟨z12, z13, z14, z15, f12, f13, f14, f15⟩ := bx4_ B11.out; have hs_ := below_step hC_ hb; replace HB := a_ hs_; clear hs_ hb hbox hg)
    | ((with_reducible refine gate_callee (f := 10) rfl ?_); refine goesL_ _ rfl rfl Tryd.func10 (by kernel_rfl) rfl #[.string p] rfl hL_ ?_; (with_reducible refine (record_Get.calls k p y0 y1 y2 y3 ey _ B6.out (GOK.below hG (below_step HX.out hC_))).mono ?_); rintro e wc7 ⟨v0_, rfl, hr0, hb⟩; refine ⟨_, rfl, ?_⟩; have hs_ := below_step hC_ hb; obtain ⟨Az, kz, rfl⟩ := Kd.R_slice hr0; have HOz := a_ (Kd.R_reads' hr0).2.2; have HCz := a_ (Kd.R_reads' hr0).2.1; replace HOc := a_ (Kd.R_below HOc.out hs_); replace HOd := a_ (Kd.C_below HOd.out hs_); replace B0 := a_ (blk_below B0.out hs_); replace B10 := a_ (blk_below B10.out hs_); replace B11 := a_ (blk_below (g := g2) (o := .cells #[.int .i64 d0, .int .i64 d1, .slice Ad d2.length kd, .string d3] 24 (0, 0)) (by (with_reducible repeat (first | refine blk_drewN ?_ _ | refine blk_drew ?_ | refine blk_alloc ?_ _)); exact (bP_ (bP_ (bP_ (bP_ (hK_ B11.out)))))) hb); replace HX := a_ (below_step HX.out hs_); replace HB := a_ (Below.refl wc7.heap.size wc7); clear hs_ hb hr0; (try clear z0 f4 z2 f5 z4 f6 z5 f7); obtain ⟨z0, z2, z4, z5, f4, f5, f6, f7⟩ := bx4_ B0.out; (try clear z8 f8 z9 f9 z10 f10 z11 f11); obtain ⟨z8, z9, z10, z11, f8, f9, f10, f11⟩ := bx4_ B10.out; (try clear z12 f12 z13 f13 z14 f14 z15 f15); obtain ⟨z12, z13, z14, z15, f12, f13, f14, f15⟩ := bx4_ B11.out)
    | ((with_reducible refine gate_dst (N := 14) rfl ?_); refine boxE_ 14 #[.int .i64 0, .int .i64 0, .slice none 0 0, .string ⟨#[]⟩] 24 ?_; intro g3 hg wb14 hbox hb; have E3 := a_ (gE_ hg : wc7.heap.size ≤ g3); have m6 := (bL_ B0.out hg : g0 ≠ g3); have m7 := (bG_ B0.out hg : g3 ≠ g0); have m8 := (bL_ B10.out hg : g1 ≠ g3); have m9 := (bG_ B10.out hg : g3 ≠ g1); have m10 := (bL_ B11.out hg : g2 ≠ g3); have m11 := (bG_ B11.out hg : g3 ≠ g2); have B12 := a_ hbox; (try clear z0 f4 z2 f5 z4 f6 z5 f7); obtain ⟨z0, z2, z4, z5, f4, f5, f6, f7⟩ := bx4_ (bB_ B0.out hb); (try clear z8 f8 z9 f9 z10 f10 z11 f11); obtain ⟨z8, z9, z10, z11, f8, f9, f10, f11⟩ := bx4_ (bB_ B10.out hb); (try clear z12 f12 z13 f13 z14 f14 z15 f15); obtain ⟨z12, z13, z14, z15, f12, f13, f14, f15⟩ := bx4_ (bB_ B11.out hb); (try clear z16 f16 z17 f17 z18 f18 z19 f19); obtain ⟨z16, z17, z18, z19, f16, f17, f18, f19⟩ := bx4_ B12.out; have hs_ := below_step hC_ hb; replace HB := a_ hs_; clear hs_ hb hbox hg)
    | ((with_reducible refine gate_callee (f := 8) rfl ?_); refine goesL_ _ rfl rfl Tryd.func8 (by kernel_rfl) rfl #[.agg #[.int .i64 c0, .int .i64 c1, .slice Ac c2.length kc, .string c3]] rfl hL_ ?_; (refine (record_Put.calls k c0 c1 _ _ c2 c3 u eu _ ?s1 ?s2 B7.out (GOK.below hG (below_step HX.out hC_))).mono ?_); (case s1 => exact (Kd.R_reads' (Kd.R_below HOc.out hC_)).2.2); (case s2 => exact (Kd.R_reads' HOc.out).2.1); rintro e wc8 ⟨rfl, hb⟩; refine ⟨_, rfl, ?_⟩; have hs_ := below_step hC_ hb; replace HOc := a_ (Kd.R_below HOc.out hs_); replace HOd := a_ (Kd.C_below HOd.out hs_); replace HOz := a_ (Kd.C_below HOz.out hs_); replace B0 := a_ (blk_below B0.out hs_); replace B10 := a_ (blk_below B10.out hs_); replace B11 := a_ (blk_below B11.out hs_); replace B12 := a_ (blk_below (g := g3) (o := .cells #[.int .i64 y0, .int .i64 y1, .slice Az y2.length kz, .string y3] 24 (0, 0)) (by (with_reducible repeat (first | refine blk_drewN ?_ _ | refine blk_drew ?_ | refine blk_alloc ?_ _)); exact (bP_ (bP_ (bP_ (bP_ (hK_ B12.out)))))) hb); replace HX := a_ (below_step HX.out hs_); replace HB := a_ (Below.refl wc8.heap.size wc8); clear hs_ hb; (try clear z0 f4 z2 f5 z4 f6 z5 f7); obtain ⟨z0, z2, z4, z5, f4, f5, f6, f7⟩ := bx4_ B0.out; (try clear z8 f8 z9 f9 z10 f10 z11 f11); obtain ⟨z8, z9, z10, z11, f8, f9, f10, f11⟩ := bx4_ B10.out; (try clear z12 f12 z13 f13 z14 f14 z15 f15); obtain ⟨z12, z13, z14, z15, f12, f13, f14, f15⟩ := bx4_ B11.out; (try clear z16 f16 z17 f17 z18 f18 z19 f19); obtain ⟨z16, z17, z18, z19, f16, f17, f18, f19⟩ := bx4_ B12.out)
    | (go_at_call 12; (with_reducible refine (sleuthlaw0_Num.calls ea t1 _ T1.out).mono ?_); rintro e w' ⟨rfl, ⟨nq_, rfl⟩⟩)
    | (go_at_call 13; (with_reducible refine (sleuthlaw0_SameNode.calls k c0 c1 _ _ c2 c3 d0 d1 _ _ d2 d3 true _ ?s1 ?s2 ?s3 ?s4 T2.out).mono ?_); (case s1 => exact (Kd.R_reads' (Kd.R_below HOc.out hC_)).2.2); (case s2 => exact (Kd.R_reads' HOc.out).2.1); (case s3 => exact (Kd.C_below HOd.out hC_)); (case s4 => exact HCd.out); rintro e wc9 ⟨rfl, hb⟩; have hs_ := below_step hC_ hb; replace HOc := a_ (Kd.R_below HOc.out hs_); replace HOd := a_ (Kd.C_below HOd.out hs_); replace HOz := a_ (Kd.C_below HOz.out hs_); replace B0 := a_ (blk_below B0.out hs_); replace B10 := a_ (blk_below B10.out hs_); replace B11 := a_ (blk_below B11.out hs_); replace B12 := a_ (blk_below B12.out hs_); replace HX := a_ (below_step HX.out hs_); replace HB := a_ (Below.refl wc9.heap.size wc9); clear hs_ hb; (try clear z0 f4 z2 f5 z4 f6 z5 f7); obtain ⟨z0, z2, z4, z5, f4, f5, f6, f7⟩ := bx4_ B0.out; (try clear z8 f8 z9 f9 z10 f10 z11 f11); obtain ⟨z8, z9, z10, z11, f8, f9, f10, f11⟩ := bx4_ B10.out; (try clear z12 f12 z13 f13 z14 f14 z15 f15); obtain ⟨z12, z13, z14, z15, f12, f13, f14, f15⟩ := bx4_ B11.out; (try clear z16 f16 z17 f17 z18 f18 z19 f19); obtain ⟨z16, z17, z18, z19, f16, f17, f18, f19⟩ := bx4_ B12.out)
    | (go_at_call 12; (with_reducible refine (sleuthlaw0_Num.calls ec t3 _ T3.out).mono ?_); rintro e w' ⟨rfl, ⟨nq_, rfl⟩⟩)
    | ((with_reducible refine gate_callee (f := 12) rfl ?_); refine goesL_ _ rfl rfl Tryd.func12 (by kernel_rfl) rfl #[.int .i64 ea] rfl hL_ ?_; (with_reducible refine (sleuthlaw0_Num.calls ea t1 _ T1.out).mono ?_); rintro e w' ⟨rfl, ⟨nq_, rfl⟩⟩; refine ⟨_, rfl, ?_⟩)
    | (go_at_call 13; (with_reducible refine (sleuthlaw0_SameNode.calls k y0 y1 _ _ y2 y3 x0 x1 _ _ lx x3 true _ ?s1 ?s2 ?s3 ?s4 T5.out).mono ?_); (case s1 => exact (Kd.C_below HOz.out hC_)); (case s2 => exact HCz.out); (case s3 => exact (Kd.C_below HRx.out (below_step HX.out hC_))); (case s4 => exact HCx.out); rintro e wc10 ⟨rfl, hb⟩; have hs_ := below_step hC_ hb; replace HOc := a_ (Kd.R_below HOc.out hs_); replace HOd := a_ (Kd.C_below HOd.out hs_); replace HOz := a_ (Kd.C_below HOz.out hs_); replace B0 := a_ (blk_below B0.out hs_); replace B10 := a_ (blk_below B10.out hs_); replace B11 := a_ (blk_below B11.out hs_); replace B12 := a_ (blk_below B12.out hs_); replace HX := a_ (below_step HX.out hs_); replace HB := a_ (Below.refl wc10.heap.size wc10); clear hs_ hb; (try clear z0 f4 z2 f5 z4 f6 z5 f7); obtain ⟨z0, z2, z4, z5, f4, f5, f6, f7⟩ := bx4_ B0.out; (try clear z8 f8 z9 f9 z10 f10 z11 f11); obtain ⟨z8, z9, z10, z11, f8, f9, f10, f11⟩ := bx4_ B10.out; (try clear z12 f12 z13 f13 z14 f14 z15 f15); obtain ⟨z12, z13, z14, z15, f12, f13, f14, f15⟩ := bx4_ B11.out; (try clear z16 f16 z17 f17 z18 f18 z19 f19); obtain ⟨z16, z17, z18, z19, f16, f17, f18, f19⟩ := bx4_ B12.out)
    | (go_at_call 12; (with_reducible refine (sleuthlaw0_Num.calls ey t6 _ T6.out).mono ?_); rintro e w' ⟨rfl, ⟨nq_, rfl⟩⟩)
    | (go_at_call 12; (with_reducible refine (sleuthlaw0_Num.calls ec t3 _ T3.out).mono ?_); rintro e w' ⟨rfl, ⟨nq_, rfl⟩⟩)
    | (go_at_call 12; (with_reducible refine (sleuthlaw0_Num.calls eu t7 _ T7.out).mono ?_); rintro e w' ⟨rfl, ⟨nq_, rfl⟩⟩)
    | ((with_reducible refine gate_callee (f := 14) rfl ?_); refine goesL_ _ rfl rfl Tryd.func14 (by kernel_rfl) rfl #[.slice Ac c2.length kc] rfl hL_ ?_; (with_reducible refine (sleuthlaw0_SpoilTexts.calls k _ _ c2 cs w1 _ (below_step HX.out hC_) (Kd.R_tight rfl (Kd.R_below HOc.out hC_)) B8.out).mono ?_); rintro e wc11 ⟨rfl, _, hb, hk⟩; refine ⟨_, rfl, ?_⟩; replace B0 := a_ (blk_kept (g := g0) (o := .cells #[.int .i64 x0, .int .i64 x1, .slice Ax lx.length cx, .string x3] 24 (0, 0)) (blk_below B0.out hC_) hk (fun h1_ => (Kd.R_typed (Kd.R_below HOc.out hC_) _ h1_.symm).elim (fun _ h2_ => types_no15 (blk_below B0.out hC_) (by decide) ⟨_, List.mem_singleton.2 rfl, _, h2_⟩))); replace B10 := a_ (blk_kept (g := g1) (o := .cells #[.int .i64 c0, .int .i64 c1, .slice Ac c2.length kc, .string c3] 24 (0, 0)) (blk_below B10.out hC_) hk (fun h1_ => (Kd.R_typed (Kd.R_below HOc.out hC_) _ h1_.symm).elim (fun _ h2_ => types_no15 (blk_below B10.out hC_) (by decide) ⟨_, List.mem_singleton.2 rfl, _, h2_⟩))); replace B11 := a_ (blk_kept (g := g2) (o := .cells #[.int .i64 d0, .int .i64 d1, .slice Ad d2.length kd, .string d3] 24 (0, 0)) (blk_below B11.out hC_) hk (fun h1_ => (Kd.R_typed (Kd.R_below HOc.out hC_) _ h1_.symm).elim (fun _ h2_ => types_no15 (blk_below B11.out hC_) (by decide) ⟨_, List.mem_singleton.2 rfl, _, h2_⟩))); replace B12 := a_ (blk_kept (g := g3) (o := .cells #[.int .i64 y0, .int .i64 y1, .slice Az y2.length kz, .string y3] 24 (0, 0)) (blk_below B12.out hC_) hk (fun h1_ => (Kd.R_typed (Kd.R_below HOc.out hC_) _ h1_.symm).elim (fun _ h2_ => types_no15 (blk_below B12.out hC_) (by decide) ⟨_, List.mem_singleton.2 rfl, _, h2_⟩))); replace HX := a_ hb; replace HB := a_ (Below.refl wc11.heap.size wc11); clear hb hk HOc; (try clear z0 f4 z2 f5 z4 f6 z5 f7); obtain ⟨z0, z2, z4, z5, f4, f5, f6, f7⟩ := bx4_ B0.out; (try clear z8 f8 z9 f9 z10 f10 z11 f11); obtain ⟨z8, z9, z10, z11, f8, f9, f10, f11⟩ := bx4_ B10.out; (try clear z12 f12 z13 f13 z14 f14 z15 f15); obtain ⟨z12, z13, z14, z15, f12, f13, f14, f15⟩ := bx4_ B11.out; (try clear z16 f16 z17 f17 z18 f18 z19 f19); obtain ⟨z16, z17, z18, z19, f16, f17, f18, f19⟩ := bx4_ B12.out; obtain ⟨adE, AE, cE, edE, hxE0, hxE1, hxE2, hxE3, hlenE, hrowE⟩ := at_T24 (Kd.C_below HRy.out HX.out) 0 (by omega) HcL.out; cases edE; (try simp only [show (0 : Int).toNat = 0 from rfl, Nat.zero_mul, Nat.mul_zero] at hxE0 hxE1 hxE2 hxE3); simp only [Addr.add, if_true, if_false, eq_false (show ¬ ((1 : Nat) = 0) by decide), eq_false (show ¬ ((2 : Nat) = 0) by decide), eq_false (show ¬ ((3 : Nat) = 0) by decide)] at hxE0 hxE1 hxE2 hxE3; have HLenE := a_ hlenE; have HRowE := a_ hrowE; have hqE := eq_true HcL.out; have hqnE := eq_true (show 0 < ly.length by have := HcL.out; omega); clear hlenE hrowE))
   refine start_ (n := 9) (S := fun w' => w'.cell? ⟨g0, 0, none⟩ = some (.int .i64 x0) ∧ w'.cell? ⟨g0, 1, none⟩ = some (.int .i64 x1) ∧ w'.cell? ⟨g0, 2, none⟩ = some (.slice Ax lx.length cx) ∧ w'.cell? ⟨g0, 3, none⟩ = some (.string x3) ∧ w'.cell? ⟨g1, 0, none⟩ = some (.int .i64 c0) ∧ w'.cell? ⟨g1, 1, none⟩ = some (.int .i64 c1) ∧ w'.cell? ⟨g1, 2, none⟩ = some (.slice Ac c2.length kc) ∧ w'.cell? ⟨g1, 3, none⟩ = some (.string c3) ∧ w'.cell? ⟨g2, 0, none⟩ = some (.int .i64 d0) ∧ w'.cell? ⟨g2, 1, none⟩ = some (.int .i64 d1) ∧ w'.cell? ⟨g2, 2, none⟩ = some (.slice Ad d2.length kd) ∧ w'.cell? ⟨g2, 3, none⟩ = some (.string d3) ∧ w'.cell? ⟨g3, 0, none⟩ = some (.int .i64 y0) ∧ w'.cell? ⟨g3, 1, none⟩ = some (.int .i64 y1) ∧ w'.cell? ⟨g3, 2, none⟩ = some (.slice Az y2.length kz) ∧ w'.cell? ⟨g3, 3, none⟩ = some (.string y3)) (ds := []) #[false, false, false, false, false, false, false, false, false] (by kernel_rfl) rfl rfl ⟨(blk_cell B0.out 0).trans rfl, (blk_cell B0.out 1).trans rfl, (blk_cell B0.out 2).trans rfl, (blk_cell B0.out 3).trans rfl, (blk_cell B10.out 0).trans rfl, (blk_cell B10.out 1).trans rfl, (blk_cell B10.out 2).trans rfl, (blk_cell B10.out 3).trans rfl, (blk_cell B11.out 0).trans rfl, (blk_cell B11.out 1).trans rfl, (blk_cell B11.out 2).trans rfl, (blk_cell B11.out 3).trans rfl, (blk_cell B12.out 0).trans rfl, (blk_cell B12.out 1).trans rfl, (blk_cell B12.out 2).trans rfl, (blk_cell B12.out 3).trans rfl⟩ (fun hHeld => ?_)
   refine with_tabW sleuthlaw15_Records.tab13 sleuthlaw15_Records.bits13 (fun HT_ HW_ => ?_)
   refine tB_ 3 109 HT_.out HW_.out hHeld ?_
   refine pB_ 0 106 HT_.out ?_
   refine pB_ 1 107 HT_.out ?_
   refine one_ (i := 2) (N := some 108) #[true, true, true, true, false, false, false, false, false] rfl rfl (one_of HT_.out (by kernel_rfl)) (by decide) (fun K hK => ?_)
   refine value_ (w1 := ?_) (v := ?_) (by rfl) rfl ?_ ?_
   rotate_left 2
   · go_simp
     constructor
     · rfl
     · rfl
   refine hK.out _ _ ⟨(blk_cell B0.out 0).trans rfl, (blk_cell B0.out 1).trans rfl, (blk_cell B0.out 2).trans rfl, (blk_cell B0.out 3).trans rfl, (blk_cell B10.out 0).trans rfl, (blk_cell B10.out 1).trans rfl, (blk_cell B10.out 2).trans rfl, (blk_cell B10.out 3).trans rfl, (blk_cell B11.out 0).trans rfl, (blk_cell B11.out 1).trans rfl, (blk_cell B11.out 2).trans rfl, (blk_cell B11.out 3).trans rfl, (blk_cell B12.out 0).trans rfl, (blk_cell B12.out 1).trans rfl, (blk_cell B12.out 2).trans rfl, (blk_cell B12.out 3).trans rfl⟩ (fun hHeld => ?_)
   clear hK K
   refine norm_ (a' := ?_) ?_ ?_
   rotate_left
   · show Act.put _ (some 108) _ = _
     simp only [Act.put, List.setIfInBounds_toArray, List.set_cons_zero, List.set_cons_succ, i64_w, i32_w]
     rfl
   refine one_ (i := 4) (N := some 110) #[true, true, true, true, true, false, false, false, false] rfl rfl (one_of HT_.out (by kernel_rfl)) (by decide) (fun K hK => ?_)
   refine goes_ Tryd.func13 (by kernel_rfl) rfl #[.agg #[.int .i64 (rd_T24 ly 0).f0, .int .i64 (rd_T24 ly 0).f1, .slice AE (rd_T24 ly 0).f2.length cE, .string (rd_T24 ly 0).f3], .agg #[.int .i64 x0, .int .i64 x1, .slice Ax lx.length cx, .string x3]] (by rfl) rfl rfl hL_ ?_
   (with_reducible refine (sleuthlaw0_SameNode.calls k (rd_T24 ly 0).f0 (rd_T24 ly 0).f1 _ _ (rd_T24 ly 0).f2 (rd_T24 ly 0).f3 x0 x1 _ _ lx x3 true _ ?s1 ?s2 ?s3 ?s4 T8.out).mono ?_)
   (case s1 => exact (Kd.C_below HRowE.out hC_))
   (case s2 => exact HLenE.out)
   (case s3 => exact (Kd.C_below HRx.out (below_step HX.out hC_)))
   (case s4 => exact HCx.out)
   rintro e wc12 ⟨rfl, hb⟩
   refine ⟨_, rfl, ?_⟩
   have hs_ := below_step hC_ hb
   replace B0 := a_ (blk_below B0.out hs_)
   replace B10 := a_ (blk_below B10.out hs_)
   replace B11 := a_ (blk_below B11.out hs_)
   replace B12 := a_ (blk_below B12.out hs_)
   replace HX := a_ (below_step HX.out hs_)
   replace HB := a_ (Below.refl wc12.heap.size wc12)
   clear hs_ hb
   refine hK.out _ _ ⟨(blk_cell B0.out 0).trans rfl, (blk_cell B0.out 1).trans rfl, (blk_cell B0.out 2).trans rfl, (blk_cell B0.out 3).trans rfl, (blk_cell B10.out 0).trans rfl, (blk_cell B10.out 1).trans rfl, (blk_cell B10.out 2).trans rfl, (blk_cell B10.out 3).trans rfl, (blk_cell B11.out 0).trans rfl, (blk_cell B11.out 1).trans rfl, (blk_cell B11.out 2).trans rfl, (blk_cell B11.out 3).trans rfl, (blk_cell B12.out 0).trans rfl, (blk_cell B12.out 1).trans rfl, (blk_cell B12.out 2).trans rfl, (blk_cell B12.out 3).trans rfl⟩ (fun hHeld => ?_)
   clear hK K
   refine norm_ (a' := ?_) ?_ ?_
   rotate_left
   · show Act.put _ (some 110) _ = _
     simp only [Act.put, List.setIfInBounds_toArray, List.set_cons_zero, List.set_cons_succ, i64_w, i32_w]
     rfl
   refine pB_ 5 111 HT_.out ?_
   refine one_ (i := 6) (N := some 112) #[true, true, true, true, true, true, true, false, false] rfl rfl (one_of HT_.out (by kernel_rfl)) (by decide) (fun K hK => ?_)
   refine goes_ Tryd.func15 (by kernel_rfl) rfl #[] (by rfl) rfl rfl hL_ ?_
   (with_reducible refine (sleuthlaw15_awake.calls k r _ B9.out (GOK.below hG (below_step HX.out hC_))).mono ?_)
   rintro e wc13 ⟨rfl, hb⟩
   refine ⟨_, rfl, ?_⟩
   have hs_ := below_step hC_ hb
   replace B0 := a_ (blk_below B0.out hs_)
   replace B10 := a_ (blk_below B10.out hs_)
   replace B11 := a_ (blk_below B11.out hs_)
   replace B12 := a_ (blk_below B12.out hs_)
   replace HX := a_ (below_step HX.out hs_)
   replace HB := a_ (Below.refl wc13.heap.size wc13)
   clear hs_ hb
   refine hK.out _ _ ⟨(blk_cell B0.out 0).trans rfl, (blk_cell B0.out 1).trans rfl, (blk_cell B0.out 2).trans rfl, (blk_cell B0.out 3).trans rfl, (blk_cell B10.out 0).trans rfl, (blk_cell B10.out 1).trans rfl, (blk_cell B10.out 2).trans rfl, (blk_cell B10.out 3).trans rfl, (blk_cell B11.out 0).trans rfl, (blk_cell B11.out 1).trans rfl, (blk_cell B11.out 2).trans rfl, (blk_cell B11.out 3).trans rfl, (blk_cell B12.out 0).trans rfl, (blk_cell B12.out 1).trans rfl, (blk_cell B12.out 2).trans rfl, (blk_cell B12.out 3).trans rfl⟩ (fun hHeld => ?_)
   clear hK K
   refine norm_ (a' := ?_) ?_ ?_
   rotate_left
   · show Act.put _ (some 112) _ = _
     simp only [Act.put, List.setIfInBounds_toArray, List.set_cons_zero, List.set_cons_succ, i64_w, i32_w]
     rfl
   refine pB_ 7 113 HT_.out ?_
   refine pB_ 8 4 HT_.out ?_
   refine done_ (done_of HT_.out (by kernel_rfl)) ?_
   (try clear z0 f4 z2 f5 z4 f6 z5 f7)
   obtain ⟨z0, z2, z4, z5, f4, f5, f6, f7⟩ := bx4_ B0.out
   (try clear z8 f8 z9 f9 z10 f10 z11 f11)
   obtain ⟨z8, z9, z10, z11, f8, f9, f10, f11⟩ := bx4_ B10.out
   (try clear z12 f12 z13 f13 z14 f14 z15 f15)
   obtain ⟨z12, z13, z14, z15, f12, f13, f14, f15⟩ := bx4_ B11.out
   (try clear z16 f16 z17 f17 z18 f18 z19 f19)
   obtain ⟨z16, z17, z18, z19, f16, f17, f18, f19⟩ := bx4_ B12.out
   try go_wp2
   go_ret
   exact ⟨hV_, below_step X0.out (below_step X1.out (below_step HX.out hC_))⟩
 case neg =>
  by_cases e3 : t3 = 0
  case pos =>
   have z1 : (t1 == 0) = false := beq_eq_false_iff_ne.mpr e1
   clear W1_ e1
   have z3 : (t3 == 0) = true := beq_iff_eq.mpr e3
   rw [if_pos e3] at W2_
   by_cases cU : u.toList = s.toList
   case neg => rw [if_neg cU] at W2_; cases W2_
   rw [if_pos cU] at W2_
   obtain ⟨t7, T7_, W2_⟩ := Option.bind_eq_some_iff.mp W2_
   by_cases cT7 : t7 = 0
   case neg => rw [if_neg cT7] at W2_; cases W2_
   have T7 := a_ T7_
   have cUa : (u.toList == s.toList) = true := beq_iff_eq.mpr cU
   have cUb : (u.toList != s.toList) = false := bne_eq_false_iff_eq.mpr cU
   have z7 : (t7 == 0) = true := beq_iff_eq.mpr cT7
   have z7b : (t7 != 0) = false := bne_eq_false_iff_eq.mpr cT7
   clear T7_ W2_ cT7 cU e3
   go_enter Tryd.func3, Tryd.ntmps3
   go_upto_region 13 with (first
    | ((with_reducible refine gate_dst (N := 2) rfl ?_); refine boxE_ 2 #[.int .i64 x0, .int .i64 x1, .slice Ax lx.length cx, .string x3] 24 ?_; intro g0 hg wb2 hbox hb; have E0 := a_ (gE_ hg : w.heap.size ≤ g0); have B0 := a_ hbox; (try clear z0 f4 z2 f5 z4 f6 z5 f7); obtain ⟨z0, z2, z4, z5, f4, f5, f6, f7⟩ := bx4_ B0.out; have hs_ := below_step hC_ hb; replace HB := a_ hs_; clear hs_ hb hbox hg)
    | ((with_reducible refine gate_dst (N := 19) rfl ?_); refine Kd.R_lit (borK15 w k24) _ 24 ?hg (N := 19) ?hd (xs := [(⟨x0, x1, lx, x3⟩ : S24)]) (inner := [.int .i64 x0, .int .i64 x1, .slice Ax lx.length cx, .string x3]) (ok := fun _ => True) (okp := fun _ => True) ?hr ?hp (fun _ hk => hk) trivial (Below.refl _ _) (Nat.le_refl _) (by simp) ?_; (case hd => rfl); (case hg => rfl); (case hr => first | (go_simp; done) | (go_simp; rfl)); (case hp => exact (Reps.c4 (show Kd.M (borK15 w k24) _ _ _ (⟨x0, x1, lx, x3⟩ : S24) [.int .i64 x0, .int .i64 x1, .slice Ax lx.length cx, .string x3] from (k24_mk w (⟨x0, x1, lx, x3⟩ : S24) HCx.out HRx.out)) (Reps.none _ _))); intro v_ wc1 hr1 hb hg_ hnew_; clear hg_ hnew_; (first | rw [← Nyl.out] at hr1 | (simp only [Int.reduceToNat] at hr1; rw [← Nyl.out] at hr1)); have hs_ := below_step hC_ hb; obtain ⟨AL, cL, rfl⟩ := Kd.R_slice hr1; have HOL := a_ (Kd.C_read (dm := borK15 w k24) (d := k24) rfl (fun _ _ h_ => Kd.K_below k24 hs_ h_) (Kd.R_reads' hr1).2.2); have HCL := a_ (Kd.R_reads' hr1).2.1; replace B0 := a_ (blk_below (g := g0) (o := .cells #[.int .i64 x0, .int .i64 x1, .slice Ax lx.length cx, .string x3] 24 (0, 0)) (by (with_reducible repeat (first | refine blk_drewN ?_ _ | refine blk_drew ?_ | refine blk_alloc ?_ _)); exact (hK_ B0.out)) hb); replace HB := a_ (Below.refl wc1.heap.size wc1); replace HRx := a_ (Kd.C_below HRx.out hs_); have X0 := a_ hs_; replace hG := GOK.below hG hs_; clear hs_ hb hr1; (try clear z0 f4 z2 f5 z4 f6 z5 f7); obtain ⟨z0, z2, z4, z5, f4, f5, f6, f7⟩ := bx4_ B0.out)
    | ((with_reducible refine gate_callee (f := 7) rfl ?_); refine goesL_ _ rfl rfl Tryd.func7 (by kernel_rfl) rfl #[.slice AL yl.length cL] rfl hL_ ?_; (with_reducible refine (sleuthlaw0_CopyNodes.calls k _ _ yl ly _ ?s1 ?s2 B1.out).mono ?_); (case s1 => exact (Kd.C_below HOL.out hC_)); (case s2 => exact HCL.out); rintro e w1 ⟨v0_, rfl, hs0, hb⟩; refine ⟨_, rfl, ?_⟩; have hs_ := below_step hC_ hb; obtain ⟨Ay, cy, rfl⟩ := Kd.S_slice hs0; have HRy := a_ (Kd.S_reads' hs0).2.2; have HCy := a_ (Kd.S_reads' hs0).2.1; replace HRx := a_ (Kd.C_below HRx.out hs_); replace HOL := a_ (Kd.C_below HOL.out hs_); replace B0 := a_ (blk_below B0.out hs_); have X1 := a_ hs_; replace hG := GOK.below hG hs_; have HX := a_ (Below.refl w1.heap.size w1); replace HB := a_ (Below.refl w1.heap.size w1); clear hs_ hb hs0; (try clear z0 f4 z2 f5 z4 f6 z5 f7); obtain ⟨z0, z2, z4, z5, f4, f5, f6, f7⟩ := bx4_ B0.out; obtain ⟨adA, AA, cA, edA, hxA0, hxA1, hxA2, hxA3, hlenA, hrowA⟩ := at_T24 HRy.out 0 (by omega) HcL.out; cases edA; (try simp only [show (0 : Int).toNat = 0 from rfl, Nat.zero_mul, Nat.mul_zero] at hxA0 hxA1 hxA2 hxA3); simp only [Addr.add, if_true, if_false, eq_false (show ¬ ((1 : Nat) = 0) by decide), eq_false (show ¬ ((2 : Nat) = 0) by decide), eq_false (show ¬ ((3 : Nat) = 0) by decide)] at hxA0 hxA1 hxA2 hxA3; have HLenA := a_ hlenA; have HRowA := a_ hrowA; have hqA := eq_true HcL.out; have hqnA := eq_true (show 0 < ly.length by have := HcL.out; omega); clear hlenA hrowA)
    | ((with_reducible refine gate_callee (f := 8) rfl ?_); refine goesL_ _ rfl rfl Tryd.func8 (by kernel_rfl) rfl #[.agg #[.int .i64 (rd_T24 ly 0).f0, .int .i64 (rd_T24 ly 0).f1, .slice AA (rd_T24 ly 0).f2.length cA, .string (rd_T24 ly 0).f3]] rfl hL_ ?_; (refine (record_Put.calls k (rd_T24 ly 0).f0 (rd_T24 ly 0).f1 _ _ (rd_T24 ly 0).f2 (rd_T24 ly 0).f3 p ea _ ?s1 ?s2 B2.out (GOK.below hG (below_step HX.out hC_))).mono ?_); (case s1 => exact (Kd.C_below HRowA.out hC_)); (case s2 => exact HLenA.out); rintro e wc3 ⟨rfl, hb⟩; refine ⟨_, rfl, ?_⟩; have hs_ := below_step hC_ hb; replace B0 := a_ (blk_below B0.out hs_); replace HX := a_ (below_step HX.out hs_); replace HB := a_ (Below.refl wc3.heap.size wc3); clear hs_ hb; (try clear z0 f4 z2 f5 z4 f6 z5 f7); obtain ⟨z0, z2, z4, z5, f4, f5, f6, f7⟩ := bx4_ B0.out)
    | ((with_reducible refine gate_callee (f := 9) rfl ?_); refine goesL_ _ rfl rfl Tryd.func9 (by kernel_rfl) rfl #[.agg #[.int .i64 x0, .int .i64 x1, .slice Ax lx.length cx, .string x3]] rfl hL_ ?_; (with_reducible refine (sleuthref12_PutRecord.calls k x0 x1 _ _ lx x3 q eb _ ?s1 ?s2 B3.out).mono ?_); (case s1 => exact (Kd.C_below HRx.out (below_step HX.out hC_))); (case s2 => exact HCx.out); rintro e wc4 ⟨rfl, hb⟩; refine ⟨_, rfl, ?_⟩; have hs_ := below_step hC_ hb; replace B0 := a_ (blk_below B0.out hs_); replace HX := a_ (below_step HX.out hs_); replace HB := a_ (Below.refl wc4.heap.size wc4); clear hs_ hb; (try clear z0 f4 z2 f5 z4 f6 z5 f7); obtain ⟨z0, z2, z4, z5, f4, f5, f6, f7⟩ := bx4_ B0.out)
    | ((with_reducible refine gate_callee (f := 10) rfl ?_); refine goesL_ _ rfl rfl Tryd.func10 (by kernel_rfl) rfl #[.string s] rfl hL_ ?_; (with_reducible refine (record_Get.calls k s c0 c1 c2 c3 ec _ B4.out (GOK.below hG (below_step HX.out hC_))).mono ?_); rintro e wc5 ⟨v0_, rfl, hr0, hb⟩; refine ⟨_, rfl, ?_⟩; have hs_ := below_step hC_ hb; obtain ⟨Ac, kc, rfl⟩ := Kd.R_slice hr0; have HOc := a_ (Kd.R_lower hr0 (below_size (below_step HX.out hC_))); replace B0 := a_ (blk_below B0.out hs_); replace HX := a_ (below_step HX.out hs_); replace HB := a_ (Below.refl wc5.heap.size wc5); clear hs_ hb hr0; (try clear z0 f4 z2 f5 z4 f6 z5 f7); obtain ⟨z0, z2, z4, z5, f4, f5, f6, f7⟩ := bx4_ B0.out)
    | ((with_reducible refine gate_dst (N := 10) rfl ?_); refine boxE_ 10 #[.int .i64 0, .int .i64 0, .slice none 0 0, .string ⟨#[]⟩] 24 ?_; intro g1 hg wb10 hbox hb; have E1 := a_ (gE_ hg : wc5.heap.size ≤ g1); have m0 := (bL_ B0.out hg : g0 ≠ g1); have m1 := (bG_ B0.out hg : g1 ≠ g0); have B10 := a_ hbox; (try clear z0 f4 z2 f5 z4 f6 z5 f7); obtain ⟨z0, z2, z4, z5, f4, f5, f6, f7⟩ := bx4_ (bB_ B0.out hb); (try clear z8 f8 z9 f9 z10 f10 z11 f11); obtain ⟨z8, z9, z10, z11, f8, f9, f10, f11⟩ := bx4_ B10.out; have hs_ := below_step hC_ hb; replace HB := a_ hs_; clear hs_ hb hbox hg)
    | ((with_reducible refine gate_callee (f := 11) rfl ?_); refine goesL_ _ rfl rfl Tryd.func11 (by kernel_rfl) rfl #[.string s] rfl hL_ ?_; (with_reducible refine (sleuthref12_GetRecord.calls k s d0 d1 d2 d3 ed _ B5.out).mono ?_); rintro e wc6 ⟨v0_, rfl, hr0, hb⟩; refine ⟨_, rfl, ?_⟩; have hs_ := below_step hC_ hb; obtain ⟨Ad, kd, rfl⟩ := Kd.R_slice hr0; have HOd := a_ (Kd.R_reads' hr0).2.2; have HCd := a_ (Kd.R_reads' hr0).2.1; replace HOc := a_ (Kd.R_below HOc.out hs_); replace B0 := a_ (blk_below B0.out hs_); replace B10 := a_ (blk_below (g := g1) (o := .cells #[.int .i64 c0, .int .i64 c1, .slice Ac c2.length kc, .string c3] 24 (0, 0)) (by (with_reducible repeat (first | refine blk_drewN ?_ _ | refine blk_drew ?_ | refine blk_alloc ?_ _)); exact (bP_ (bP_ (bP_ (bP_ (hK_ B10.out)))))) hb); replace HX := a_ (below_step HX.out hs_); replace HB := a_ (Below.refl wc6.heap.size wc6); clear hs_ hb hr0; (try clear z0 f4 z2 f5 z4 f6 z5 f7); obtain ⟨z0, z2, z4, z5, f4, f5, f6, f7⟩ := bx4_ B0.out; (try clear z8 f8 z9 f9 z10 f10 z11 f11); obtain ⟨z8, z9, z10, z11, f8, f9, f10, f11⟩ := bx4_ B10.out)
    | ((with_reducible refine gate_dst (N := 12) rfl ?_); refine boxE_ 12 #[.int .i64 0, .int .i64 0, .slice none 0 0, .string ⟨#[]⟩] 24 ?_; intro g2 hg wb12 hbox hb; have E2 := a_ (gE_ hg : wc6.heap.size ≤ g2); have m2 := (bL_ B0.out hg : g0 ≠ g2); have m3 := (bG_ B0.out hg : g2 ≠ g0); have m4 := (bL_ B10.out hg : g1 ≠ g2); have m5 := (bG_ B10.out hg : g2 ≠ g1); have B11 := a_ hbox; (try clear z0 f4 z2 f5 z4 f6 z5 f7); obtain ⟨z0, z2, z4, z5, f4, f5, f6, f7⟩ := bx4_ (bB_ B0.out hb); (try clear z8 f8 z9 f9 z10 f10 z11 f11); obtain ⟨z8, z9, z10, z11, f8, f9, f10, f11⟩ := bx4_ (bB_ B10.out hb); (try clear z12 f12 z13 f13 z14 f14 z15 f15); obtain ⟨z12, z13, z14, z15, f12, f13, f14, f15⟩ := bx4_ B11.out; have hs_ := below_step hC_ hb; replace HB := a_ hs_; clear hs_ hb hbox hg)
    | ((with_reducible refine gate_callee (f := 10) rfl ?_); refine goesL_ _ rfl rfl Tryd.func10 (by kernel_rfl) rfl #[.string p] rfl hL_ ?_; (with_reducible refine (record_Get.calls k p y0 y1 y2 y3 ey _ B6.out (GOK.below hG (below_step HX.out hC_))).mono ?_); rintro e wc7 ⟨v0_, rfl, hr0, hb⟩; refine ⟨_, rfl, ?_⟩; have hs_ := below_step hC_ hb; obtain ⟨Az, kz, rfl⟩ := Kd.R_slice hr0; have HOz := a_ (Kd.R_reads' hr0).2.2; have HCz := a_ (Kd.R_reads' hr0).2.1; replace HOc := a_ (Kd.R_below HOc.out hs_); replace HOd := a_ (Kd.C_below HOd.out hs_); replace B0 := a_ (blk_below B0.out hs_); replace B10 := a_ (blk_below B10.out hs_); replace B11 := a_ (blk_below (g := g2) (o := .cells #[.int .i64 d0, .int .i64 d1, .slice Ad d2.length kd, .string d3] 24 (0, 0)) (by (with_reducible repeat (first | refine blk_drewN ?_ _ | refine blk_drew ?_ | refine blk_alloc ?_ _)); exact (bP_ (bP_ (bP_ (bP_ (hK_ B11.out)))))) hb); replace HX := a_ (below_step HX.out hs_); replace HB := a_ (Below.refl wc7.heap.size wc7); clear hs_ hb hr0; (try clear z0 f4 z2 f5 z4 f6 z5 f7); obtain ⟨z0, z2, z4, z5, f4, f5, f6, f7⟩ := bx4_ B0.out; (try clear z8 f8 z9 f9 z10 f10 z11 f11); obtain ⟨z8, z9, z10, z11, f8, f9, f10, f11⟩ := bx4_ B10.out; (try clear z12 f12 z13 f13 z14 f14 z15 f15); obtain ⟨z12, z13, z14, z15, f12, f13, f14, f15⟩ := bx4_ B11.out)
    | ((with_reducible refine gate_dst (N := 14) rfl ?_); refine boxE_ 14 #[.int .i64 0, .int .i64 0, .slice none 0 0, .string ⟨#[]⟩] 24 ?_; intro g3 hg wb14 hbox hb; have E3 := a_ (gE_ hg : wc7.heap.size ≤ g3); have m6 := (bL_ B0.out hg : g0 ≠ g3); have m7 := (bG_ B0.out hg : g3 ≠ g0); have m8 := (bL_ B10.out hg : g1 ≠ g3); have m9 := (bG_ B10.out hg : g3 ≠ g1); have m10 := (bL_ B11.out hg : g2 ≠ g3); have m11 := (bG_ B11.out hg : g3 ≠ g2); have B12 := a_ hbox; (try clear z0 f4 z2 f5 z4 f6 z5 f7); obtain ⟨z0, z2, z4, z5, f4, f5, f6, f7⟩ := bx4_ (bB_ B0.out hb); (try clear z8 f8 z9 f9 z10 f10 z11 f11); obtain ⟨z8, z9, z10, z11, f8, f9, f10, f11⟩ := bx4_ (bB_ B10.out hb); (try clear z12 f12 z13 f13 z14 f14 z15 f15); obtain ⟨z12, z13, z14, z15, f12, f13, f14, f15⟩ := bx4_ (bB_ B11.out hb); (try clear z16 f16 z17 f17 z18 f18 z19 f19); obtain ⟨z16, z17, z18, z19, f16, f17, f18, f19⟩ := bx4_ B12.out; have hs_ := below_step hC_ hb; replace HB := a_ hs_; clear hs_ hb hbox hg)
    | ((with_reducible refine gate_callee (f := 8) rfl ?_); refine goesL_ _ rfl rfl Tryd.func8 (by kernel_rfl) rfl #[.agg #[.int .i64 c0, .int .i64 c1, .slice Ac c2.length kc, .string c3]] rfl hL_ ?_; (refine (record_Put.calls k c0 c1 _ _ c2 c3 u eu _ ?s1 ?s2 B7.out (GOK.below hG (below_step HX.out hC_))).mono ?_); (case s1 => exact (Kd.R_reads' (Kd.R_below HOc.out hC_)).2.2); (case s2 => exact (Kd.R_reads' HOc.out).2.1); rintro e wc8 ⟨rfl, hb⟩; refine ⟨_, rfl, ?_⟩; have hs_ := below_step hC_ hb; replace HOc := a_ (Kd.R_below HOc.out hs_); replace HOd := a_ (Kd.C_below HOd.out hs_); replace HOz := a_ (Kd.C_below HOz.out hs_); replace B0 := a_ (blk_below B0.out hs_); replace B10 := a_ (blk_below B10.out hs_); replace B11 := a_ (blk_below B11.out hs_); replace B12 := a_ (blk_below (g := g3) (o := .cells #[.int .i64 y0, .int .i64 y1, .slice Az y2.length kz, .string y3] 24 (0, 0)) (by (with_reducible repeat (first | refine blk_drewN ?_ _ | refine blk_drew ?_ | refine blk_alloc ?_ _)); exact (bP_ (bP_ (bP_ (bP_ (hK_ B12.out)))))) hb); replace HX := a_ (below_step HX.out hs_); replace HB := a_ (Below.refl wc8.heap.size wc8); clear hs_ hb; (try clear z0 f4 z2 f5 z4 f6 z5 f7); obtain ⟨z0, z2, z4, z5, f4, f5, f6, f7⟩ := bx4_ B0.out; (try clear z8 f8 z9 f9 z10 f10 z11 f11); obtain ⟨z8, z9, z10, z11, f8, f9, f10, f11⟩ := bx4_ B10.out; (try clear z12 f12 z13 f13 z14 f14 z15 f15); obtain ⟨z12, z13, z14, z15, f12, f13, f14, f15⟩ := bx4_ B11.out; (try clear z16 f16 z17 f17 z18 f18 z19 f19); obtain ⟨z16, z17, z18, z19, f16, f17, f18, f19⟩ := bx4_ B12.out)
    | (go_at_call 12; (with_reducible refine (sleuthlaw0_Num.calls ea t1 _ T1.out).mono ?_); rintro e w' ⟨rfl, ⟨nq_, rfl⟩⟩)
    | (go_at_call 13; (with_reducible refine (sleuthlaw0_SameNode.calls k c0 c1 _ _ c2 c3 d0 d1 _ _ d2 d3 true _ ?s1 ?s2 ?s3 ?s4 T2.out).mono ?_); (case s1 => exact (Kd.R_reads' (Kd.R_below HOc.out hC_)).2.2); (case s2 => exact (Kd.R_reads' HOc.out).2.1); (case s3 => exact (Kd.C_below HOd.out hC_)); (case s4 => exact HCd.out); rintro e wc9 ⟨rfl, hb⟩; have hs_ := below_step hC_ hb; replace HOc := a_ (Kd.R_below HOc.out hs_); replace HOd := a_ (Kd.C_below HOd.out hs_); replace HOz := a_ (Kd.C_below HOz.out hs_); replace B0 := a_ (blk_below B0.out hs_); replace B10 := a_ (blk_below B10.out hs_); replace B11 := a_ (blk_below B11.out hs_); replace B12 := a_ (blk_below B12.out hs_); replace HX := a_ (below_step HX.out hs_); replace HB := a_ (Below.refl wc9.heap.size wc9); clear hs_ hb; (try clear z0 f4 z2 f5 z4 f6 z5 f7); obtain ⟨z0, z2, z4, z5, f4, f5, f6, f7⟩ := bx4_ B0.out; (try clear z8 f8 z9 f9 z10 f10 z11 f11); obtain ⟨z8, z9, z10, z11, f8, f9, f10, f11⟩ := bx4_ B10.out; (try clear z12 f12 z13 f13 z14 f14 z15 f15); obtain ⟨z12, z13, z14, z15, f12, f13, f14, f15⟩ := bx4_ B11.out; (try clear z16 f16 z17 f17 z18 f18 z19 f19); obtain ⟨z16, z17, z18, z19, f16, f17, f18, f19⟩ := bx4_ B12.out)
    | (go_at_call 12; (with_reducible refine (sleuthlaw0_Num.calls ec t3 _ T3.out).mono ?_); rintro e w' ⟨rfl, ⟨nq_, rfl⟩⟩)
    | ((with_reducible refine gate_callee (f := 12) rfl ?_); refine goesL_ _ rfl rfl Tryd.func12 (by kernel_rfl) rfl #[.int .i64 ea] rfl hL_ ?_; (with_reducible refine (sleuthlaw0_Num.calls ea t1 _ T1.out).mono ?_); rintro e w' ⟨rfl, ⟨nq_, rfl⟩⟩; refine ⟨_, rfl, ?_⟩)
    | (go_at_call 13; (with_reducible refine (sleuthlaw0_SameNode.calls k y0 y1 _ _ y2 y3 x0 x1 _ _ lx x3 true _ ?s1 ?s2 ?s3 ?s4 T5.out).mono ?_); (case s1 => exact (Kd.C_below HOz.out hC_)); (case s2 => exact HCz.out); (case s3 => exact (Kd.C_below HRx.out (below_step HX.out hC_))); (case s4 => exact HCx.out); rintro e wc10 ⟨rfl, hb⟩; have hs_ := below_step hC_ hb; replace HOc := a_ (Kd.R_below HOc.out hs_); replace HOd := a_ (Kd.C_below HOd.out hs_); replace HOz := a_ (Kd.C_below HOz.out hs_); replace B0 := a_ (blk_below B0.out hs_); replace B10 := a_ (blk_below B10.out hs_); replace B11 := a_ (blk_below B11.out hs_); replace B12 := a_ (blk_below B12.out hs_); replace HX := a_ (below_step HX.out hs_); replace HB := a_ (Below.refl wc10.heap.size wc10); clear hs_ hb; (try clear z0 f4 z2 f5 z4 f6 z5 f7); obtain ⟨z0, z2, z4, z5, f4, f5, f6, f7⟩ := bx4_ B0.out; (try clear z8 f8 z9 f9 z10 f10 z11 f11); obtain ⟨z8, z9, z10, z11, f8, f9, f10, f11⟩ := bx4_ B10.out; (try clear z12 f12 z13 f13 z14 f14 z15 f15); obtain ⟨z12, z13, z14, z15, f12, f13, f14, f15⟩ := bx4_ B11.out; (try clear z16 f16 z17 f17 z18 f18 z19 f19); obtain ⟨z16, z17, z18, z19, f16, f17, f18, f19⟩ := bx4_ B12.out)
    | (go_at_call 12; (with_reducible refine (sleuthlaw0_Num.calls ey t6 _ T6.out).mono ?_); rintro e w' ⟨rfl, ⟨nq_, rfl⟩⟩)
    | (go_at_call 12; (with_reducible refine (sleuthlaw0_Num.calls ec t3 _ T3.out).mono ?_); rintro e w' ⟨rfl, ⟨nq_, rfl⟩⟩)
    | (go_at_call 12; (with_reducible refine (sleuthlaw0_Num.calls eu t7 _ T7.out).mono ?_); rintro e w' ⟨rfl, ⟨nq_, rfl⟩⟩)
    | ((with_reducible refine gate_callee (f := 14) rfl ?_); refine goesL_ _ rfl rfl Tryd.func14 (by kernel_rfl) rfl #[.slice Ac c2.length kc] rfl hL_ ?_; (with_reducible refine (sleuthlaw0_SpoilTexts.calls k _ _ c2 cs w1 _ (below_step HX.out hC_) (Kd.R_tight rfl (Kd.R_below HOc.out hC_)) B8.out).mono ?_); rintro e wc11 ⟨rfl, _, hb, hk⟩; refine ⟨_, rfl, ?_⟩; replace B0 := a_ (blk_kept (g := g0) (o := .cells #[.int .i64 x0, .int .i64 x1, .slice Ax lx.length cx, .string x3] 24 (0, 0)) (blk_below B0.out hC_) hk (fun h1_ => (Kd.R_typed (Kd.R_below HOc.out hC_) _ h1_.symm).elim (fun _ h2_ => types_no15 (blk_below B0.out hC_) (by decide) ⟨_, List.mem_singleton.2 rfl, _, h2_⟩))); replace B10 := a_ (blk_kept (g := g1) (o := .cells #[.int .i64 c0, .int .i64 c1, .slice Ac c2.length kc, .string c3] 24 (0, 0)) (blk_below B10.out hC_) hk (fun h1_ => (Kd.R_typed (Kd.R_below HOc.out hC_) _ h1_.symm).elim (fun _ h2_ => types_no15 (blk_below B10.out hC_) (by decide) ⟨_, List.mem_singleton.2 rfl, _, h2_⟩))); replace B11 := a_ (blk_kept (g := g2) (o := .cells #[.int .i64 d0, .int .i64 d1, .slice Ad d2.length kd, .string d3] 24 (0, 0)) (blk_below B11.out hC_) hk (fun h1_ => (Kd.R_typed (Kd.R_below HOc.out hC_) _ h1_.symm).elim (fun _ h2_ => types_no15 (blk_below B11.out hC_) (by decide) ⟨_, List.mem_singleton.2 rfl, _, h2_⟩))); replace B12 := a_ (blk_kept (g := g3) (o := .cells #[.int .i64 y0, .int .i64 y1, .slice Az y2.length kz, .string y3] 24 (0, 0)) (blk_below B12.out hC_) hk (fun h1_ => (Kd.R_typed (Kd.R_below HOc.out hC_) _ h1_.symm).elim (fun _ h2_ => types_no15 (blk_below B12.out hC_) (by decide) ⟨_, List.mem_singleton.2 rfl, _, h2_⟩))); replace HX := a_ hb; replace HB := a_ (Below.refl wc11.heap.size wc11); clear hb hk HOc; (try clear z0 f4 z2 f5 z4 f6 z5 f7); obtain ⟨z0, z2, z4, z5, f4, f5, f6, f7⟩ := bx4_ B0.out; (try clear z8 f8 z9 f9 z10 f10 z11 f11); obtain ⟨z8, z9, z10, z11, f8, f9, f10, f11⟩ := bx4_ B10.out; (try clear z12 f12 z13 f13 z14 f14 z15 f15); obtain ⟨z12, z13, z14, z15, f12, f13, f14, f15⟩ := bx4_ B11.out; (try clear z16 f16 z17 f17 z18 f18 z19 f19); obtain ⟨z16, z17, z18, z19, f16, f17, f18, f19⟩ := bx4_ B12.out; obtain ⟨adE, AE, cE, edE, hxE0, hxE1, hxE2, hxE3, hlenE, hrowE⟩ := at_T24 (Kd.C_below HRy.out HX.out) 0 (by omega) HcL.out; cases edE; (try simp only [show (0 : Int).toNat = 0 from rfl, Nat.zero_mul, Nat.mul_zero] at hxE0 hxE1 hxE2 hxE3); simp only [Addr.add, if_true, if_false, eq_false (show ¬ ((1 : Nat) = 0) by decide), eq_false (show ¬ ((2 : Nat) = 0) by decide), eq_false (show ¬ ((3 : Nat) = 0) by decide)] at hxE0 hxE1 hxE2 hxE3; have HLenE := a_ hlenE; have HRowE := a_ hrowE; have hqE := eq_true HcL.out; have hqnE := eq_true (show 0 < ly.length by have := HcL.out; omega); clear hlenE hrowE))
   refine start_ (n := 9) (S := fun w' => w'.cell? ⟨g0, 0, none⟩ = some (.int .i64 x0) ∧ w'.cell? ⟨g0, 1, none⟩ = some (.int .i64 x1) ∧ w'.cell? ⟨g0, 2, none⟩ = some (.slice Ax lx.length cx) ∧ w'.cell? ⟨g0, 3, none⟩ = some (.string x3) ∧ w'.cell? ⟨g1, 0, none⟩ = some (.int .i64 c0) ∧ w'.cell? ⟨g1, 1, none⟩ = some (.int .i64 c1) ∧ w'.cell? ⟨g1, 2, none⟩ = some (.slice Ac c2.length kc) ∧ w'.cell? ⟨g1, 3, none⟩ = some (.string c3) ∧ w'.cell? ⟨g2, 0, none⟩ = some (.int .i64 d0) ∧ w'.cell? ⟨g2, 1, none⟩ = some (.int .i64 d1) ∧ w'.cell? ⟨g2, 2, none⟩ = some (.slice Ad d2.length kd) ∧ w'.cell? ⟨g2, 3, none⟩ = some (.string d3) ∧ w'.cell? ⟨g3, 0, none⟩ = some (.int .i64 y0) ∧ w'.cell? ⟨g3, 1, none⟩ = some (.int .i64 y1) ∧ w'.cell? ⟨g3, 2, none⟩ = some (.slice Az y2.length kz) ∧ w'.cell? ⟨g3, 3, none⟩ = some (.string y3)) (ds := []) #[false, false, false, false, false, false, false, false, false] (by kernel_rfl) rfl rfl ⟨(blk_cell B0.out 0).trans rfl, (blk_cell B0.out 1).trans rfl, (blk_cell B0.out 2).trans rfl, (blk_cell B0.out 3).trans rfl, (blk_cell B10.out 0).trans rfl, (blk_cell B10.out 1).trans rfl, (blk_cell B10.out 2).trans rfl, (blk_cell B10.out 3).trans rfl, (blk_cell B11.out 0).trans rfl, (blk_cell B11.out 1).trans rfl, (blk_cell B11.out 2).trans rfl, (blk_cell B11.out 3).trans rfl, (blk_cell B12.out 0).trans rfl, (blk_cell B12.out 1).trans rfl, (blk_cell B12.out 2).trans rfl, (blk_cell B12.out 3).trans rfl⟩ (fun hHeld => ?_)
   refine with_tabW sleuthlaw15_Records.tab13 sleuthlaw15_Records.bits13 (fun HT_ HW_ => ?_)
   refine tB_ 3 109 HT_.out HW_.out hHeld ?_
   refine pB_ 0 106 HT_.out ?_
   refine pB_ 1 107 HT_.out ?_
   refine one_ (i := 2) (N := some 108) #[true, true, true, true, false, false, false, false, false] rfl rfl (one_of HT_.out (by kernel_rfl)) (by decide) (fun K hK => ?_)
   refine value_ (w1 := ?_) (v := ?_) (by rfl) rfl ?_ ?_
   rotate_left 2
   · go_simp
     constructor
     · rfl
     · rfl
   refine hK.out _ _ ⟨(blk_cell B0.out 0).trans rfl, (blk_cell B0.out 1).trans rfl, (blk_cell B0.out 2).trans rfl, (blk_cell B0.out 3).trans rfl, (blk_cell B10.out 0).trans rfl, (blk_cell B10.out 1).trans rfl, (blk_cell B10.out 2).trans rfl, (blk_cell B10.out 3).trans rfl, (blk_cell B11.out 0).trans rfl, (blk_cell B11.out 1).trans rfl, (blk_cell B11.out 2).trans rfl, (blk_cell B11.out 3).trans rfl, (blk_cell B12.out 0).trans rfl, (blk_cell B12.out 1).trans rfl, (blk_cell B12.out 2).trans rfl, (blk_cell B12.out 3).trans rfl⟩ (fun hHeld => ?_)
   clear hK K
   refine norm_ (a' := ?_) ?_ ?_
   rotate_left
   · show Act.put _ (some 108) _ = _
     simp only [Act.put, List.setIfInBounds_toArray, List.set_cons_zero, List.set_cons_succ, i64_w, i32_w]
     rfl
   refine one_ (i := 4) (N := some 110) #[true, true, true, true, true, false, false, false, false] rfl rfl (one_of HT_.out (by kernel_rfl)) (by decide) (fun K hK => ?_)
   refine goes_ Tryd.func13 (by kernel_rfl) rfl #[.agg #[.int .i64 (rd_T24 ly 0).f0, .int .i64 (rd_T24 ly 0).f1, .slice AE (rd_T24 ly 0).f2.length cE, .string (rd_T24 ly 0).f3], .agg #[.int .i64 x0, .int .i64 x1, .slice Ax lx.length cx, .string x3]] (by rfl) rfl rfl hL_ ?_
   (with_reducible refine (sleuthlaw0_SameNode.calls k (rd_T24 ly 0).f0 (rd_T24 ly 0).f1 _ _ (rd_T24 ly 0).f2 (rd_T24 ly 0).f3 x0 x1 _ _ lx x3 true _ ?s1 ?s2 ?s3 ?s4 T8.out).mono ?_)
   (case s1 => exact (Kd.C_below HRowE.out hC_))
   (case s2 => exact HLenE.out)
   (case s3 => exact (Kd.C_below HRx.out (below_step HX.out hC_)))
   (case s4 => exact HCx.out)
   rintro e wc12 ⟨rfl, hb⟩
   refine ⟨_, rfl, ?_⟩
   have hs_ := below_step hC_ hb
   replace B0 := a_ (blk_below B0.out hs_)
   replace B10 := a_ (blk_below B10.out hs_)
   replace B11 := a_ (blk_below B11.out hs_)
   replace B12 := a_ (blk_below B12.out hs_)
   replace HX := a_ (below_step HX.out hs_)
   replace HB := a_ (Below.refl wc12.heap.size wc12)
   clear hs_ hb
   refine hK.out _ _ ⟨(blk_cell B0.out 0).trans rfl, (blk_cell B0.out 1).trans rfl, (blk_cell B0.out 2).trans rfl, (blk_cell B0.out 3).trans rfl, (blk_cell B10.out 0).trans rfl, (blk_cell B10.out 1).trans rfl, (blk_cell B10.out 2).trans rfl, (blk_cell B10.out 3).trans rfl, (blk_cell B11.out 0).trans rfl, (blk_cell B11.out 1).trans rfl, (blk_cell B11.out 2).trans rfl, (blk_cell B11.out 3).trans rfl, (blk_cell B12.out 0).trans rfl, (blk_cell B12.out 1).trans rfl, (blk_cell B12.out 2).trans rfl, (blk_cell B12.out 3).trans rfl⟩ (fun hHeld => ?_)
   clear hK K
   refine norm_ (a' := ?_) ?_ ?_
   rotate_left
   · show Act.put _ (some 110) _ = _
     simp only [Act.put, List.setIfInBounds_toArray, List.set_cons_zero, List.set_cons_succ, i64_w, i32_w]
     rfl
   refine pB_ 5 111 HT_.out ?_
   refine one_ (i := 6) (N := some 112) #[true, true, true, true, true, true, true, false, false] rfl rfl (one_of HT_.out (by kernel_rfl)) (by decide) (fun K hK => ?_)
   refine goes_ Tryd.func15 (by kernel_rfl) rfl #[] (by rfl) rfl rfl hL_ ?_
   (with_reducible refine (sleuthlaw15_awake.calls k r _ B9.out (GOK.below hG (below_step HX.out hC_))).mono ?_)
   rintro e wc13 ⟨rfl, hb⟩
   refine ⟨_, rfl, ?_⟩
   have hs_ := below_step hC_ hb
   replace B0 := a_ (blk_below B0.out hs_)
   replace B10 := a_ (blk_below B10.out hs_)
   replace B11 := a_ (blk_below B11.out hs_)
   replace B12 := a_ (blk_below B12.out hs_)
   replace HX := a_ (below_step HX.out hs_)
   replace HB := a_ (Below.refl wc13.heap.size wc13)
   clear hs_ hb
   refine hK.out _ _ ⟨(blk_cell B0.out 0).trans rfl, (blk_cell B0.out 1).trans rfl, (blk_cell B0.out 2).trans rfl, (blk_cell B0.out 3).trans rfl, (blk_cell B10.out 0).trans rfl, (blk_cell B10.out 1).trans rfl, (blk_cell B10.out 2).trans rfl, (blk_cell B10.out 3).trans rfl, (blk_cell B11.out 0).trans rfl, (blk_cell B11.out 1).trans rfl, (blk_cell B11.out 2).trans rfl, (blk_cell B11.out 3).trans rfl, (blk_cell B12.out 0).trans rfl, (blk_cell B12.out 1).trans rfl, (blk_cell B12.out 2).trans rfl, (blk_cell B12.out 3).trans rfl⟩ (fun hHeld => ?_)
   clear hK K
   refine norm_ (a' := ?_) ?_ ?_
   rotate_left
   · show Act.put _ (some 112) _ = _
     simp only [Act.put, List.setIfInBounds_toArray, List.set_cons_zero, List.set_cons_succ, i64_w, i32_w]
     rfl
   refine pB_ 7 113 HT_.out ?_
   refine pB_ 8 4 HT_.out ?_
   refine done_ (done_of HT_.out (by kernel_rfl)) ?_
   (try clear z0 f4 z2 f5 z4 f6 z5 f7)
   obtain ⟨z0, z2, z4, z5, f4, f5, f6, f7⟩ := bx4_ B0.out
   (try clear z8 f8 z9 f9 z10 f10 z11 f11)
   obtain ⟨z8, z9, z10, z11, f8, f9, f10, f11⟩ := bx4_ B10.out
   (try clear z12 f12 z13 f13 z14 f14 z15 f15)
   obtain ⟨z12, z13, z14, z15, f12, f13, f14, f15⟩ := bx4_ B11.out
   (try clear z16 f16 z17 f17 z18 f18 z19 f19)
   obtain ⟨z16, z17, z18, z19, f16, f17, f18, f19⟩ := bx4_ B12.out
   try go_wp2
   go_ret
   exact ⟨hV_, below_step X0.out (below_step X1.out (below_step HX.out hC_))⟩
  case neg =>
   have z1 : (t1 == 0) = false := beq_eq_false_iff_ne.mpr e1
   clear W1_ e1
   have z3 : (t3 == 0) = false := beq_eq_false_iff_ne.mpr e3
   clear W2_ e3
   go_enter Tryd.func3, Tryd.ntmps3
   go_upto_region 13 with (first
    | ((with_reducible refine gate_dst (N := 2) rfl ?_); refine boxE_ 2 #[.int .i64 x0, .int .i64 x1, .slice Ax lx.length cx, .string x3] 24 ?_; intro g0 hg wb2 hbox hb; have E0 := a_ (gE_ hg : w.heap.size ≤ g0); have B0 := a_ hbox; (try clear z0 f4 z2 f5 z4 f6 z5 f7); obtain ⟨z0, z2, z4, z5, f4, f5, f6, f7⟩ := bx4_ B0.out; have hs_ := below_step hC_ hb; replace HB := a_ hs_; clear hs_ hb hbox hg)
    | ((with_reducible refine gate_dst (N := 19) rfl ?_); refine Kd.R_lit (borK15 w k24) _ 24 ?hg (N := 19) ?hd (xs := [(⟨x0, x1, lx, x3⟩ : S24)]) (inner := [.int .i64 x0, .int .i64 x1, .slice Ax lx.length cx, .string x3]) (ok := fun _ => True) (okp := fun _ => True) ?hr ?hp (fun _ hk => hk) trivial (Below.refl _ _) (Nat.le_refl _) (by simp) ?_; (case hd => rfl); (case hg => rfl); (case hr => first | (go_simp; done) | (go_simp; rfl)); (case hp => exact (Reps.c4 (show Kd.M (borK15 w k24) _ _ _ (⟨x0, x1, lx, x3⟩ : S24) [.int .i64 x0, .int .i64 x1, .slice Ax lx.length cx, .string x3] from (k24_mk w (⟨x0, x1, lx, x3⟩ : S24) HCx.out HRx.out)) (Reps.none _ _))); intro v_ wc1 hr1 hb hg_ hnew_; clear hg_ hnew_; (first | rw [← Nyl.out] at hr1 | (simp only [Int.reduceToNat] at hr1; rw [← Nyl.out] at hr1)); have hs_ := below_step hC_ hb; obtain ⟨AL, cL, rfl⟩ := Kd.R_slice hr1; have HOL := a_ (Kd.C_read (dm := borK15 w k24) (d := k24) rfl (fun _ _ h_ => Kd.K_below k24 hs_ h_) (Kd.R_reads' hr1).2.2); have HCL := a_ (Kd.R_reads' hr1).2.1; replace B0 := a_ (blk_below (g := g0) (o := .cells #[.int .i64 x0, .int .i64 x1, .slice Ax lx.length cx, .string x3] 24 (0, 0)) (by (with_reducible repeat (first | refine blk_drewN ?_ _ | refine blk_drew ?_ | refine blk_alloc ?_ _)); exact (hK_ B0.out)) hb); replace HB := a_ (Below.refl wc1.heap.size wc1); replace HRx := a_ (Kd.C_below HRx.out hs_); have X0 := a_ hs_; replace hG := GOK.below hG hs_; clear hs_ hb hr1; (try clear z0 f4 z2 f5 z4 f6 z5 f7); obtain ⟨z0, z2, z4, z5, f4, f5, f6, f7⟩ := bx4_ B0.out)
    | ((with_reducible refine gate_callee (f := 7) rfl ?_); refine goesL_ _ rfl rfl Tryd.func7 (by kernel_rfl) rfl #[.slice AL yl.length cL] rfl hL_ ?_; (with_reducible refine (sleuthlaw0_CopyNodes.calls k _ _ yl ly _ ?s1 ?s2 B1.out).mono ?_); (case s1 => exact (Kd.C_below HOL.out hC_)); (case s2 => exact HCL.out); rintro e w1 ⟨v0_, rfl, hs0, hb⟩; refine ⟨_, rfl, ?_⟩; have hs_ := below_step hC_ hb; obtain ⟨Ay, cy, rfl⟩ := Kd.S_slice hs0; have HRy := a_ (Kd.S_reads' hs0).2.2; have HCy := a_ (Kd.S_reads' hs0).2.1; replace HRx := a_ (Kd.C_below HRx.out hs_); replace HOL := a_ (Kd.C_below HOL.out hs_); replace B0 := a_ (blk_below B0.out hs_); have X1 := a_ hs_; replace hG := GOK.below hG hs_; have HX := a_ (Below.refl w1.heap.size w1); replace HB := a_ (Below.refl w1.heap.size w1); clear hs_ hb hs0; (try clear z0 f4 z2 f5 z4 f6 z5 f7); obtain ⟨z0, z2, z4, z5, f4, f5, f6, f7⟩ := bx4_ B0.out; obtain ⟨adA, AA, cA, edA, hxA0, hxA1, hxA2, hxA3, hlenA, hrowA⟩ := at_T24 HRy.out 0 (by omega) HcL.out; cases edA; (try simp only [show (0 : Int).toNat = 0 from rfl, Nat.zero_mul, Nat.mul_zero] at hxA0 hxA1 hxA2 hxA3); simp only [Addr.add, if_true, if_false, eq_false (show ¬ ((1 : Nat) = 0) by decide), eq_false (show ¬ ((2 : Nat) = 0) by decide), eq_false (show ¬ ((3 : Nat) = 0) by decide)] at hxA0 hxA1 hxA2 hxA3; have HLenA := a_ hlenA; have HRowA := a_ hrowA; have hqA := eq_true HcL.out; have hqnA := eq_true (show 0 < ly.length by have := HcL.out; omega); clear hlenA hrowA)
    | ((with_reducible refine gate_callee (f := 8) rfl ?_); refine goesL_ _ rfl rfl Tryd.func8 (by kernel_rfl) rfl #[.agg #[.int .i64 (rd_T24 ly 0).f0, .int .i64 (rd_T24 ly 0).f1, .slice AA (rd_T24 ly 0).f2.length cA, .string (rd_T24 ly 0).f3]] rfl hL_ ?_; (refine (record_Put.calls k (rd_T24 ly 0).f0 (rd_T24 ly 0).f1 _ _ (rd_T24 ly 0).f2 (rd_T24 ly 0).f3 p ea _ ?s1 ?s2 B2.out (GOK.below hG (below_step HX.out hC_))).mono ?_); (case s1 => exact (Kd.C_below HRowA.out hC_)); (case s2 => exact HLenA.out); rintro e wc3 ⟨rfl, hb⟩; refine ⟨_, rfl, ?_⟩; have hs_ := below_step hC_ hb; replace B0 := a_ (blk_below B0.out hs_); replace HX := a_ (below_step HX.out hs_); replace HB := a_ (Below.refl wc3.heap.size wc3); clear hs_ hb; (try clear z0 f4 z2 f5 z4 f6 z5 f7); obtain ⟨z0, z2, z4, z5, f4, f5, f6, f7⟩ := bx4_ B0.out)
    | ((with_reducible refine gate_callee (f := 9) rfl ?_); refine goesL_ _ rfl rfl Tryd.func9 (by kernel_rfl) rfl #[.agg #[.int .i64 x0, .int .i64 x1, .slice Ax lx.length cx, .string x3]] rfl hL_ ?_; (with_reducible refine (sleuthref12_PutRecord.calls k x0 x1 _ _ lx x3 q eb _ ?s1 ?s2 B3.out).mono ?_); (case s1 => exact (Kd.C_below HRx.out (below_step HX.out hC_))); (case s2 => exact HCx.out); rintro e wc4 ⟨rfl, hb⟩; refine ⟨_, rfl, ?_⟩; have hs_ := below_step hC_ hb; replace B0 := a_ (blk_below B0.out hs_); replace HX := a_ (below_step HX.out hs_); replace HB := a_ (Below.refl wc4.heap.size wc4); clear hs_ hb; (try clear z0 f4 z2 f5 z4 f6 z5 f7); obtain ⟨z0, z2, z4, z5, f4, f5, f6, f7⟩ := bx4_ B0.out)
    | ((with_reducible refine gate_callee (f := 10) rfl ?_); refine goesL_ _ rfl rfl Tryd.func10 (by kernel_rfl) rfl #[.string s] rfl hL_ ?_; (with_reducible refine (record_Get.calls k s c0 c1 c2 c3 ec _ B4.out (GOK.below hG (below_step HX.out hC_))).mono ?_); rintro e wc5 ⟨v0_, rfl, hr0, hb⟩; refine ⟨_, rfl, ?_⟩; have hs_ := below_step hC_ hb; obtain ⟨Ac, kc, rfl⟩ := Kd.R_slice hr0; have HOc := a_ (Kd.R_lower hr0 (below_size (below_step HX.out hC_))); replace B0 := a_ (blk_below B0.out hs_); replace HX := a_ (below_step HX.out hs_); replace HB := a_ (Below.refl wc5.heap.size wc5); clear hs_ hb hr0; (try clear z0 f4 z2 f5 z4 f6 z5 f7); obtain ⟨z0, z2, z4, z5, f4, f5, f6, f7⟩ := bx4_ B0.out)
    | ((with_reducible refine gate_dst (N := 10) rfl ?_); refine boxE_ 10 #[.int .i64 0, .int .i64 0, .slice none 0 0, .string ⟨#[]⟩] 24 ?_; intro g1 hg wb10 hbox hb; have E1 := a_ (gE_ hg : wc5.heap.size ≤ g1); have m0 := (bL_ B0.out hg : g0 ≠ g1); have m1 := (bG_ B0.out hg : g1 ≠ g0); have B10 := a_ hbox; (try clear z0 f4 z2 f5 z4 f6 z5 f7); obtain ⟨z0, z2, z4, z5, f4, f5, f6, f7⟩ := bx4_ (bB_ B0.out hb); (try clear z8 f8 z9 f9 z10 f10 z11 f11); obtain ⟨z8, z9, z10, z11, f8, f9, f10, f11⟩ := bx4_ B10.out; have hs_ := below_step hC_ hb; replace HB := a_ hs_; clear hs_ hb hbox hg)
    | ((with_reducible refine gate_callee (f := 11) rfl ?_); refine goesL_ _ rfl rfl Tryd.func11 (by kernel_rfl) rfl #[.string s] rfl hL_ ?_; (with_reducible refine (sleuthref12_GetRecord.calls k s d0 d1 d2 d3 ed _ B5.out).mono ?_); rintro e wc6 ⟨v0_, rfl, hr0, hb⟩; refine ⟨_, rfl, ?_⟩; have hs_ := below_step hC_ hb; obtain ⟨Ad, kd, rfl⟩ := Kd.R_slice hr0; have HOd := a_ (Kd.R_reads' hr0).2.2; have HCd := a_ (Kd.R_reads' hr0).2.1; replace HOc := a_ (Kd.R_below HOc.out hs_); replace B0 := a_ (blk_below B0.out hs_); replace B10 := a_ (blk_below (g := g1) (o := .cells #[.int .i64 c0, .int .i64 c1, .slice Ac c2.length kc, .string c3] 24 (0, 0)) (by (with_reducible repeat (first | refine blk_drewN ?_ _ | refine blk_drew ?_ | refine blk_alloc ?_ _)); exact (bP_ (bP_ (bP_ (bP_ (hK_ B10.out)))))) hb); replace HX := a_ (below_step HX.out hs_); replace HB := a_ (Below.refl wc6.heap.size wc6); clear hs_ hb hr0; (try clear z0 f4 z2 f5 z4 f6 z5 f7); obtain ⟨z0, z2, z4, z5, f4, f5, f6, f7⟩ := bx4_ B0.out; (try clear z8 f8 z9 f9 z10 f10 z11 f11); obtain ⟨z8, z9, z10, z11, f8, f9, f10, f11⟩ := bx4_ B10.out)
    | ((with_reducible refine gate_dst (N := 12) rfl ?_); refine boxE_ 12 #[.int .i64 0, .int .i64 0, .slice none 0 0, .string ⟨#[]⟩] 24 ?_; intro g2 hg wb12 hbox hb; have E2 := a_ (gE_ hg : wc6.heap.size ≤ g2); have m2 := (bL_ B0.out hg : g0 ≠ g2); have m3 := (bG_ B0.out hg : g2 ≠ g0); have m4 := (bL_ B10.out hg : g1 ≠ g2); have m5 := (bG_ B10.out hg : g2 ≠ g1); have B11 := a_ hbox; (try clear z0 f4 z2 f5 z4 f6 z5 f7); obtain ⟨z0, z2, z4, z5, f4, f5, f6, f7⟩ := bx4_ (bB_ B0.out hb); (try clear z8 f8 z9 f9 z10 f10 z11 f11); obtain ⟨z8, z9, z10, z11, f8, f9, f10, f11⟩ := bx4_ (bB_ B10.out hb); (try clear z12 f12 z13 f13 z14 f14 z15 f15); obtain ⟨z12, z13, z14, z15, f12, f13, f14, f15⟩ := bx4_ B11.out; have hs_ := below_step hC_ hb; replace HB := a_ hs_; clear hs_ hb hbox hg)
    | ((with_reducible refine gate_callee (f := 10) rfl ?_); refine goesL_ _ rfl rfl Tryd.func10 (by kernel_rfl) rfl #[.string p] rfl hL_ ?_; (with_reducible refine (record_Get.calls k p y0 y1 y2 y3 ey _ B6.out (GOK.below hG (below_step HX.out hC_))).mono ?_); rintro e wc7 ⟨v0_, rfl, hr0, hb⟩; refine ⟨_, rfl, ?_⟩; have hs_ := below_step hC_ hb; obtain ⟨Az, kz, rfl⟩ := Kd.R_slice hr0; have HOz := a_ (Kd.R_reads' hr0).2.2; have HCz := a_ (Kd.R_reads' hr0).2.1; replace HOc := a_ (Kd.R_below HOc.out hs_); replace HOd := a_ (Kd.C_below HOd.out hs_); replace B0 := a_ (blk_below B0.out hs_); replace B10 := a_ (blk_below B10.out hs_); replace B11 := a_ (blk_below (g := g2) (o := .cells #[.int .i64 d0, .int .i64 d1, .slice Ad d2.length kd, .string d3] 24 (0, 0)) (by (with_reducible repeat (first | refine blk_drewN ?_ _ | refine blk_drew ?_ | refine blk_alloc ?_ _)); exact (bP_ (bP_ (bP_ (bP_ (hK_ B11.out)))))) hb); replace HX := a_ (below_step HX.out hs_); replace HB := a_ (Below.refl wc7.heap.size wc7); clear hs_ hb hr0; (try clear z0 f4 z2 f5 z4 f6 z5 f7); obtain ⟨z0, z2, z4, z5, f4, f5, f6, f7⟩ := bx4_ B0.out; (try clear z8 f8 z9 f9 z10 f10 z11 f11); obtain ⟨z8, z9, z10, z11, f8, f9, f10, f11⟩ := bx4_ B10.out; (try clear z12 f12 z13 f13 z14 f14 z15 f15); obtain ⟨z12, z13, z14, z15, f12, f13, f14, f15⟩ := bx4_ B11.out)
    | ((with_reducible refine gate_dst (N := 14) rfl ?_); refine boxE_ 14 #[.int .i64 0, .int .i64 0, .slice none 0 0, .string ⟨#[]⟩] 24 ?_; intro g3 hg wb14 hbox hb; have E3 := a_ (gE_ hg : wc7.heap.size ≤ g3); have m6 := (bL_ B0.out hg : g0 ≠ g3); have m7 := (bG_ B0.out hg : g3 ≠ g0); have m8 := (bL_ B10.out hg : g1 ≠ g3); have m9 := (bG_ B10.out hg : g3 ≠ g1); have m10 := (bL_ B11.out hg : g2 ≠ g3); have m11 := (bG_ B11.out hg : g3 ≠ g2); have B12 := a_ hbox; (try clear z0 f4 z2 f5 z4 f6 z5 f7); obtain ⟨z0, z2, z4, z5, f4, f5, f6, f7⟩ := bx4_ (bB_ B0.out hb); (try clear z8 f8 z9 f9 z10 f10 z11 f11); obtain ⟨z8, z9, z10, z11, f8, f9, f10, f11⟩ := bx4_ (bB_ B10.out hb); (try clear z12 f12 z13 f13 z14 f14 z15 f15); obtain ⟨z12, z13, z14, z15, f12, f13, f14, f15⟩ := bx4_ (bB_ B11.out hb); (try clear z16 f16 z17 f17 z18 f18 z19 f19); obtain ⟨z16, z17, z18, z19, f16, f17, f18, f19⟩ := bx4_ B12.out; have hs_ := below_step hC_ hb; replace HB := a_ hs_; clear hs_ hb hbox hg)
    | ((with_reducible refine gate_callee (f := 8) rfl ?_); refine goesL_ _ rfl rfl Tryd.func8 (by kernel_rfl) rfl #[.agg #[.int .i64 c0, .int .i64 c1, .slice Ac c2.length kc, .string c3]] rfl hL_ ?_; (refine (record_Put.calls k c0 c1 _ _ c2 c3 u eu _ ?s1 ?s2 B7.out (GOK.below hG (below_step HX.out hC_))).mono ?_); (case s1 => exact (Kd.R_reads' (Kd.R_below HOc.out hC_)).2.2); (case s2 => exact (Kd.R_reads' HOc.out).2.1); rintro e wc8 ⟨rfl, hb⟩; refine ⟨_, rfl, ?_⟩; have hs_ := below_step hC_ hb; replace HOc := a_ (Kd.R_below HOc.out hs_); replace HOd := a_ (Kd.C_below HOd.out hs_); replace HOz := a_ (Kd.C_below HOz.out hs_); replace B0 := a_ (blk_below B0.out hs_); replace B10 := a_ (blk_below B10.out hs_); replace B11 := a_ (blk_below B11.out hs_); replace B12 := a_ (blk_below (g := g3) (o := .cells #[.int .i64 y0, .int .i64 y1, .slice Az y2.length kz, .string y3] 24 (0, 0)) (by (with_reducible repeat (first | refine blk_drewN ?_ _ | refine blk_drew ?_ | refine blk_alloc ?_ _)); exact (bP_ (bP_ (bP_ (bP_ (hK_ B12.out)))))) hb); replace HX := a_ (below_step HX.out hs_); replace HB := a_ (Below.refl wc8.heap.size wc8); clear hs_ hb; (try clear z0 f4 z2 f5 z4 f6 z5 f7); obtain ⟨z0, z2, z4, z5, f4, f5, f6, f7⟩ := bx4_ B0.out; (try clear z8 f8 z9 f9 z10 f10 z11 f11); obtain ⟨z8, z9, z10, z11, f8, f9, f10, f11⟩ := bx4_ B10.out; (try clear z12 f12 z13 f13 z14 f14 z15 f15); obtain ⟨z12, z13, z14, z15, f12, f13, f14, f15⟩ := bx4_ B11.out; (try clear z16 f16 z17 f17 z18 f18 z19 f19); obtain ⟨z16, z17, z18, z19, f16, f17, f18, f19⟩ := bx4_ B12.out)
    | (go_at_call 12; (with_reducible refine (sleuthlaw0_Num.calls ea t1 _ T1.out).mono ?_); rintro e w' ⟨rfl, ⟨nq_, rfl⟩⟩)
    | (go_at_call 13; (with_reducible refine (sleuthlaw0_SameNode.calls k c0 c1 _ _ c2 c3 d0 d1 _ _ d2 d3 true _ ?s1 ?s2 ?s3 ?s4 T2.out).mono ?_); (case s1 => exact (Kd.R_reads' (Kd.R_below HOc.out hC_)).2.2); (case s2 => exact (Kd.R_reads' HOc.out).2.1); (case s3 => exact (Kd.C_below HOd.out hC_)); (case s4 => exact HCd.out); rintro e wc9 ⟨rfl, hb⟩; have hs_ := below_step hC_ hb; replace HOc := a_ (Kd.R_below HOc.out hs_); replace HOd := a_ (Kd.C_below HOd.out hs_); replace HOz := a_ (Kd.C_below HOz.out hs_); replace B0 := a_ (blk_below B0.out hs_); replace B10 := a_ (blk_below B10.out hs_); replace B11 := a_ (blk_below B11.out hs_); replace B12 := a_ (blk_below B12.out hs_); replace HX := a_ (below_step HX.out hs_); replace HB := a_ (Below.refl wc9.heap.size wc9); clear hs_ hb; (try clear z0 f4 z2 f5 z4 f6 z5 f7); obtain ⟨z0, z2, z4, z5, f4, f5, f6, f7⟩ := bx4_ B0.out; (try clear z8 f8 z9 f9 z10 f10 z11 f11); obtain ⟨z8, z9, z10, z11, f8, f9, f10, f11⟩ := bx4_ B10.out; (try clear z12 f12 z13 f13 z14 f14 z15 f15); obtain ⟨z12, z13, z14, z15, f12, f13, f14, f15⟩ := bx4_ B11.out; (try clear z16 f16 z17 f17 z18 f18 z19 f19); obtain ⟨z16, z17, z18, z19, f16, f17, f18, f19⟩ := bx4_ B12.out)
    | (go_at_call 12; (with_reducible refine (sleuthlaw0_Num.calls ec t3 _ T3.out).mono ?_); rintro e w' ⟨rfl, ⟨nq_, rfl⟩⟩)
    | ((with_reducible refine gate_callee (f := 12) rfl ?_); refine goesL_ _ rfl rfl Tryd.func12 (by kernel_rfl) rfl #[.int .i64 ea] rfl hL_ ?_; (with_reducible refine (sleuthlaw0_Num.calls ea t1 _ T1.out).mono ?_); rintro e w' ⟨rfl, ⟨nq_, rfl⟩⟩; refine ⟨_, rfl, ?_⟩)
    | (go_at_call 13; (with_reducible refine (sleuthlaw0_SameNode.calls k y0 y1 _ _ y2 y3 x0 x1 _ _ lx x3 true _ ?s1 ?s2 ?s3 ?s4 T5.out).mono ?_); (case s1 => exact (Kd.C_below HOz.out hC_)); (case s2 => exact HCz.out); (case s3 => exact (Kd.C_below HRx.out (below_step HX.out hC_))); (case s4 => exact HCx.out); rintro e wc10 ⟨rfl, hb⟩; have hs_ := below_step hC_ hb; replace HOc := a_ (Kd.R_below HOc.out hs_); replace HOd := a_ (Kd.C_below HOd.out hs_); replace HOz := a_ (Kd.C_below HOz.out hs_); replace B0 := a_ (blk_below B0.out hs_); replace B10 := a_ (blk_below B10.out hs_); replace B11 := a_ (blk_below B11.out hs_); replace B12 := a_ (blk_below B12.out hs_); replace HX := a_ (below_step HX.out hs_); replace HB := a_ (Below.refl wc10.heap.size wc10); clear hs_ hb; (try clear z0 f4 z2 f5 z4 f6 z5 f7); obtain ⟨z0, z2, z4, z5, f4, f5, f6, f7⟩ := bx4_ B0.out; (try clear z8 f8 z9 f9 z10 f10 z11 f11); obtain ⟨z8, z9, z10, z11, f8, f9, f10, f11⟩ := bx4_ B10.out; (try clear z12 f12 z13 f13 z14 f14 z15 f15); obtain ⟨z12, z13, z14, z15, f12, f13, f14, f15⟩ := bx4_ B11.out; (try clear z16 f16 z17 f17 z18 f18 z19 f19); obtain ⟨z16, z17, z18, z19, f16, f17, f18, f19⟩ := bx4_ B12.out)
    | (go_at_call 12; (with_reducible refine (sleuthlaw0_Num.calls ey t6 _ T6.out).mono ?_); rintro e w' ⟨rfl, ⟨nq_, rfl⟩⟩)
    | (go_at_call 12; (with_reducible refine (sleuthlaw0_Num.calls ec t3 _ T3.out).mono ?_); rintro e w' ⟨rfl, ⟨nq_, rfl⟩⟩)
    | (go_at_call 12; (with_reducible refine (sleuthlaw0_Num.calls eu t7 _ T7.out).mono ?_); rintro e w' ⟨rfl, ⟨nq_, rfl⟩⟩)
    | ((with_reducible refine gate_callee (f := 14) rfl ?_); refine goesL_ _ rfl rfl Tryd.func14 (by kernel_rfl) rfl #[.slice Ac c2.length kc] rfl hL_ ?_; (with_reducible refine (sleuthlaw0_SpoilTexts.calls k _ _ c2 cs w1 _ (below_step HX.out hC_) (Kd.R_tight rfl (Kd.R_below HOc.out hC_)) B8.out).mono ?_); rintro e wc11 ⟨rfl, _, hb, hk⟩; refine ⟨_, rfl, ?_⟩; replace B0 := a_ (blk_kept (g := g0) (o := .cells #[.int .i64 x0, .int .i64 x1, .slice Ax lx.length cx, .string x3] 24 (0, 0)) (blk_below B0.out hC_) hk (fun h1_ => (Kd.R_typed (Kd.R_below HOc.out hC_) _ h1_.symm).elim (fun _ h2_ => types_no15 (blk_below B0.out hC_) (by decide) ⟨_, List.mem_singleton.2 rfl, _, h2_⟩))); replace B10 := a_ (blk_kept (g := g1) (o := .cells #[.int .i64 c0, .int .i64 c1, .slice Ac c2.length kc, .string c3] 24 (0, 0)) (blk_below B10.out hC_) hk (fun h1_ => (Kd.R_typed (Kd.R_below HOc.out hC_) _ h1_.symm).elim (fun _ h2_ => types_no15 (blk_below B10.out hC_) (by decide) ⟨_, List.mem_singleton.2 rfl, _, h2_⟩))); replace B11 := a_ (blk_kept (g := g2) (o := .cells #[.int .i64 d0, .int .i64 d1, .slice Ad d2.length kd, .string d3] 24 (0, 0)) (blk_below B11.out hC_) hk (fun h1_ => (Kd.R_typed (Kd.R_below HOc.out hC_) _ h1_.symm).elim (fun _ h2_ => types_no15 (blk_below B11.out hC_) (by decide) ⟨_, List.mem_singleton.2 rfl, _, h2_⟩))); replace B12 := a_ (blk_kept (g := g3) (o := .cells #[.int .i64 y0, .int .i64 y1, .slice Az y2.length kz, .string y3] 24 (0, 0)) (blk_below B12.out hC_) hk (fun h1_ => (Kd.R_typed (Kd.R_below HOc.out hC_) _ h1_.symm).elim (fun _ h2_ => types_no15 (blk_below B12.out hC_) (by decide) ⟨_, List.mem_singleton.2 rfl, _, h2_⟩))); replace HX := a_ hb; replace HB := a_ (Below.refl wc11.heap.size wc11); clear hb hk HOc; (try clear z0 f4 z2 f5 z4 f6 z5 f7); obtain ⟨z0, z2, z4, z5, f4, f5, f6, f7⟩ := bx4_ B0.out; (try clear z8 f8 z9 f9 z10 f10 z11 f11); obtain ⟨z8, z9, z10, z11, f8, f9, f10, f11⟩ := bx4_ B10.out; (try clear z12 f12 z13 f13 z14 f14 z15 f15); obtain ⟨z12, z13, z14, z15, f12, f13, f14, f15⟩ := bx4_ B11.out; (try clear z16 f16 z17 f17 z18 f18 z19 f19); obtain ⟨z16, z17, z18, z19, f16, f17, f18, f19⟩ := bx4_ B12.out; obtain ⟨adE, AE, cE, edE, hxE0, hxE1, hxE2, hxE3, hlenE, hrowE⟩ := at_T24 (Kd.C_below HRy.out HX.out) 0 (by omega) HcL.out; cases edE; (try simp only [show (0 : Int).toNat = 0 from rfl, Nat.zero_mul, Nat.mul_zero] at hxE0 hxE1 hxE2 hxE3); simp only [Addr.add, if_true, if_false, eq_false (show ¬ ((1 : Nat) = 0) by decide), eq_false (show ¬ ((2 : Nat) = 0) by decide), eq_false (show ¬ ((3 : Nat) = 0) by decide)] at hxE0 hxE1 hxE2 hxE3; have HLenE := a_ hlenE; have HRowE := a_ hrowE; have hqE := eq_true HcL.out; have hqnE := eq_true (show 0 < ly.length by have := HcL.out; omega); clear hlenE hrowE))
   refine start_ (n := 9) (S := fun w' => w'.cell? ⟨g0, 0, none⟩ = some (.int .i64 x0) ∧ w'.cell? ⟨g0, 1, none⟩ = some (.int .i64 x1) ∧ w'.cell? ⟨g0, 2, none⟩ = some (.slice Ax lx.length cx) ∧ w'.cell? ⟨g0, 3, none⟩ = some (.string x3) ∧ w'.cell? ⟨g1, 0, none⟩ = some (.int .i64 c0) ∧ w'.cell? ⟨g1, 1, none⟩ = some (.int .i64 c1) ∧ w'.cell? ⟨g1, 2, none⟩ = some (.slice Ac c2.length kc) ∧ w'.cell? ⟨g1, 3, none⟩ = some (.string c3) ∧ w'.cell? ⟨g2, 0, none⟩ = some (.int .i64 d0) ∧ w'.cell? ⟨g2, 1, none⟩ = some (.int .i64 d1) ∧ w'.cell? ⟨g2, 2, none⟩ = some (.slice Ad d2.length kd) ∧ w'.cell? ⟨g2, 3, none⟩ = some (.string d3) ∧ w'.cell? ⟨g3, 0, none⟩ = some (.int .i64 y0) ∧ w'.cell? ⟨g3, 1, none⟩ = some (.int .i64 y1) ∧ w'.cell? ⟨g3, 2, none⟩ = some (.slice Az y2.length kz) ∧ w'.cell? ⟨g3, 3, none⟩ = some (.string y3)) (ds := []) #[false, false, false, false, false, false, false, false, false] (by kernel_rfl) rfl rfl ⟨(blk_cell B0.out 0).trans rfl, (blk_cell B0.out 1).trans rfl, (blk_cell B0.out 2).trans rfl, (blk_cell B0.out 3).trans rfl, (blk_cell B10.out 0).trans rfl, (blk_cell B10.out 1).trans rfl, (blk_cell B10.out 2).trans rfl, (blk_cell B10.out 3).trans rfl, (blk_cell B11.out 0).trans rfl, (blk_cell B11.out 1).trans rfl, (blk_cell B11.out 2).trans rfl, (blk_cell B11.out 3).trans rfl, (blk_cell B12.out 0).trans rfl, (blk_cell B12.out 1).trans rfl, (blk_cell B12.out 2).trans rfl, (blk_cell B12.out 3).trans rfl⟩ (fun hHeld => ?_)
   refine with_tabW sleuthlaw15_Records.tab13 sleuthlaw15_Records.bits13 (fun HT_ HW_ => ?_)
   refine tB_ 3 109 HT_.out HW_.out hHeld ?_
   refine pB_ 0 106 HT_.out ?_
   refine pB_ 1 107 HT_.out ?_
   refine one_ (i := 2) (N := some 108) #[true, true, true, true, false, false, false, false, false] rfl rfl (one_of HT_.out (by kernel_rfl)) (by decide) (fun K hK => ?_)
   refine value_ (w1 := ?_) (v := ?_) (by rfl) rfl ?_ ?_
   rotate_left 2
   · go_simp
     constructor
     · rfl
     · rfl
   refine hK.out _ _ ⟨(blk_cell B0.out 0).trans rfl, (blk_cell B0.out 1).trans rfl, (blk_cell B0.out 2).trans rfl, (blk_cell B0.out 3).trans rfl, (blk_cell B10.out 0).trans rfl, (blk_cell B10.out 1).trans rfl, (blk_cell B10.out 2).trans rfl, (blk_cell B10.out 3).trans rfl, (blk_cell B11.out 0).trans rfl, (blk_cell B11.out 1).trans rfl, (blk_cell B11.out 2).trans rfl, (blk_cell B11.out 3).trans rfl, (blk_cell B12.out 0).trans rfl, (blk_cell B12.out 1).trans rfl, (blk_cell B12.out 2).trans rfl, (blk_cell B12.out 3).trans rfl⟩ (fun hHeld => ?_)
   clear hK K
   refine norm_ (a' := ?_) ?_ ?_
   rotate_left
   · show Act.put _ (some 108) _ = _
     simp only [Act.put, List.setIfInBounds_toArray, List.set_cons_zero, List.set_cons_succ, i64_w, i32_w]
     rfl
   refine one_ (i := 4) (N := some 110) #[true, true, true, true, true, false, false, false, false] rfl rfl (one_of HT_.out (by kernel_rfl)) (by decide) (fun K hK => ?_)
   refine goes_ Tryd.func13 (by kernel_rfl) rfl #[.agg #[.int .i64 (rd_T24 ly 0).f0, .int .i64 (rd_T24 ly 0).f1, .slice AE (rd_T24 ly 0).f2.length cE, .string (rd_T24 ly 0).f3], .agg #[.int .i64 x0, .int .i64 x1, .slice Ax lx.length cx, .string x3]] (by rfl) rfl rfl hL_ ?_
   (with_reducible refine (sleuthlaw0_SameNode.calls k (rd_T24 ly 0).f0 (rd_T24 ly 0).f1 _ _ (rd_T24 ly 0).f2 (rd_T24 ly 0).f3 x0 x1 _ _ lx x3 true _ ?s1 ?s2 ?s3 ?s4 T8.out).mono ?_)
   (case s1 => exact (Kd.C_below HRowE.out hC_))
   (case s2 => exact HLenE.out)
   (case s3 => exact (Kd.C_below HRx.out (below_step HX.out hC_)))
   (case s4 => exact HCx.out)
   rintro e wc12 ⟨rfl, hb⟩
   refine ⟨_, rfl, ?_⟩
   have hs_ := below_step hC_ hb
   replace B0 := a_ (blk_below B0.out hs_)
   replace B10 := a_ (blk_below B10.out hs_)
   replace B11 := a_ (blk_below B11.out hs_)
   replace B12 := a_ (blk_below B12.out hs_)
   replace HX := a_ (below_step HX.out hs_)
   replace HB := a_ (Below.refl wc12.heap.size wc12)
   clear hs_ hb
   refine hK.out _ _ ⟨(blk_cell B0.out 0).trans rfl, (blk_cell B0.out 1).trans rfl, (blk_cell B0.out 2).trans rfl, (blk_cell B0.out 3).trans rfl, (blk_cell B10.out 0).trans rfl, (blk_cell B10.out 1).trans rfl, (blk_cell B10.out 2).trans rfl, (blk_cell B10.out 3).trans rfl, (blk_cell B11.out 0).trans rfl, (blk_cell B11.out 1).trans rfl, (blk_cell B11.out 2).trans rfl, (blk_cell B11.out 3).trans rfl, (blk_cell B12.out 0).trans rfl, (blk_cell B12.out 1).trans rfl, (blk_cell B12.out 2).trans rfl, (blk_cell B12.out 3).trans rfl⟩ (fun hHeld => ?_)
   clear hK K
   refine norm_ (a' := ?_) ?_ ?_
   rotate_left
   · show Act.put _ (some 110) _ = _
     simp only [Act.put, List.setIfInBounds_toArray, List.set_cons_zero, List.set_cons_succ, i64_w, i32_w]
     rfl
   refine pB_ 5 111 HT_.out ?_
   refine one_ (i := 6) (N := some 112) #[true, true, true, true, true, true, true, false, false] rfl rfl (one_of HT_.out (by kernel_rfl)) (by decide) (fun K hK => ?_)
   refine goes_ Tryd.func15 (by kernel_rfl) rfl #[] (by rfl) rfl rfl hL_ ?_
   (with_reducible refine (sleuthlaw15_awake.calls k r _ B9.out (GOK.below hG (below_step HX.out hC_))).mono ?_)
   rintro e wc13 ⟨rfl, hb⟩
   refine ⟨_, rfl, ?_⟩
   have hs_ := below_step hC_ hb
   replace B0 := a_ (blk_below B0.out hs_)
   replace B10 := a_ (blk_below B10.out hs_)
   replace B11 := a_ (blk_below B11.out hs_)
   replace B12 := a_ (blk_below B12.out hs_)
   replace HX := a_ (below_step HX.out hs_)
   replace HB := a_ (Below.refl wc13.heap.size wc13)
   clear hs_ hb
   refine hK.out _ _ ⟨(blk_cell B0.out 0).trans rfl, (blk_cell B0.out 1).trans rfl, (blk_cell B0.out 2).trans rfl, (blk_cell B0.out 3).trans rfl, (blk_cell B10.out 0).trans rfl, (blk_cell B10.out 1).trans rfl, (blk_cell B10.out 2).trans rfl, (blk_cell B10.out 3).trans rfl, (blk_cell B11.out 0).trans rfl, (blk_cell B11.out 1).trans rfl, (blk_cell B11.out 2).trans rfl, (blk_cell B11.out 3).trans rfl, (blk_cell B12.out 0).trans rfl, (blk_cell B12.out 1).trans rfl, (blk_cell B12.out 2).trans rfl, (blk_cell B12.out 3).trans rfl⟩ (fun hHeld => ?_)
   clear hK K
   refine norm_ (a' := ?_) ?_ ?_
   rotate_left
   · show Act.put _ (some 112) _ = _
     simp only [Act.put, List.setIfInBounds_toArray, List.set_cons_zero, List.set_cons_succ, i64_w, i32_w]
     rfl
   refine pB_ 7 113 HT_.out ?_
   refine pB_ 8 4 HT_.out ?_
   refine done_ (done_of HT_.out (by kernel_rfl)) ?_
   (try clear z0 f4 z2 f5 z4 f6 z5 f7)
   obtain ⟨z0, z2, z4, z5, f4, f5, f6, f7⟩ := bx4_ B0.out
   (try clear z8 f8 z9 f9 z10 f10 z11 f11)
   obtain ⟨z8, z9, z10, z11, f8, f9, f10, f11⟩ := bx4_ B10.out
   (try clear z12 f12 z13 f13 z14 f14 z15 f15)
   obtain ⟨z12, z13, z14, z15, f12, f13, f14, f15⟩ := bx4_ B11.out
   (try clear z16 f16 z17 f17 z18 f18 z19 f19)
   obtain ⟨z16, z17, z18, z19, f16, f17, f18, f19⟩ := bx4_ B12.out
   try go_wp2
   go_ret
   exact ⟨hV_, below_step X0.out (below_step X1.out (below_step HX.out hC_))⟩

end Go.Proofs.YthoegphcmkejoaaDoor.G
