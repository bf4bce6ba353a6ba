/- Parts of this proof, one behind the other: G24, RefNew, G46, G47, G48, G49, SpoilVals, G52, SessBothL. -/
import Derived.Test.YtijamgfpgdiigaaGreatDoorU2
import Derived.Test.YtijamgfpgdiigaaGreatDoorG0
import Derived.Test.YtijamgfpgdiigaaGreatDoorU5
import Derived.Test.YtijamgfpgdiigaaGreatDoorU7
import Derived.Test.YtijamgfpgdiigaaGreatDoorU12
import Derived.Test.YtijamgfpgdiigaaGreatDoorU8
import Derived.Test.YtijamgfpgdiigaaGreatDoorU11
section
namespace Go.Proofs.YtijamgfpgdiigaaGreatDoor.G
open Go.RowKit Go.Proofs.YtijamgfpgdiigaaGreatDoorW.PrintWords Go.Proofs.YtijamgfpgdiigaaGreatDoorW.PrintLast Go.Proofs.YtijamgfpgdiigaaGreatDoorW.PrintMore
set_option maxHeartbeats 8000000
set_option maxRecDepth 100000
attribute [local go_sem] max2_int min2_int max_two min_two max_three min_three max_four min_four   -- for this text's walks alone
set_option linter.unusedVariables false
set_option linter.unusedSimpArgs false

def sleuthref12_CopyNodes.l0 : Nat → List (S57) → List (S57) → Int → Option ((List (S57)))
 | 0, _, _, _ => none
 | k + 1, x0, x3, x4 => if x4 < (x0.length : Int) then (if 0 ≤ x4 then ((some (([] : List ByteArray) : List ByteArray)).bind fun y275 => (if y275.length + ((rd_T57 x0 x4).f2).length < 8796093022208 then (if x3.length < 2513169434916 then (sleuthref12_CopyNodes.l0 k x0 (x3 ++ [(⟨(rd_T57 x0 x4).f0, (rd_T57 x0 x4).f1, (y275 ++ ((rd_T57 x0 x4).f2)), (rd_T57 x0 x4).f3⟩ : S57)]) (wrap64 (x4 + 1))) else (none)) else (none))) else (none)) else (some x3)
def sleuthref12_CopyNodes.f (k : Nat) (l0 : List (S57)) : Option ((List (S57))) := sleuthref12_CopyNodes.l0 k l0 ([] : List (S57)) 0
theorem sleuthref12_CopyNodes.calls (k : Nat) (A0 : Option Addr) (c0 : Nat) (l0 : List (S57)) (r : List (S57)) (w : World) (hr0 : Kd.C k57 w A0 l0.length l0) (hc0 : l0.length ≤ c0) (h : sleuthref12_CopyNodes.f k l0 = some r) :
 Calls Tryz.prog 18 #[.slice A0 l0.length c0] w fun e w' => ∃ v0_ : Value, e = .returned (v0_) ∧ Kd.S k57 57 w' w.heap.size (fun _ => True) v0_ r ∧ Below w.heap.size w w' := by
 have hu57 := Tryz.underlying57
 have HR0 := a_ hr0
 have HC0 := a_ hc0
 clear hr0 hc0
 have HB := a_ (Below.refl w.heap.size w)
 have H : (sleuthref12_CopyNodes.l0 k l0 ([] : List (S57)) 0) = some r := h
 clear h
 have H' := a_ H
 clear H
 go_enter Tryz.func18, Tryz.ntmps18
 go_wp2
 go_loopg [3, 4] k (fun kq v3 v4 w' => ∃ (x1 : List (S57)) (x0 : Int), v4 = .int .i64 x0 ∧ Aside0 (sleuthref12_CopyNodes.l0 kq l0 x1 x0 = some r) ∧ Aside0 (kq ≤ k) ∧ Aside0 (Kd.S k57 57 w' w.heap.size (fun _ => True) v3 x1) ∧ Aside0 (Below w.heap.size w w'))
 case atStart => exact ⟨(([] : List (S57))), (0), hW_, H', ⟨Nat.le_refl _⟩, ⟨by first | exact Kd.S_nil _ _ _ _ _ | exact Kd.N_nil _ _ _ _ _ | exact Kd.V_nil _ _ _ _ _ | exact Kd.Q_nil _ _ _ _ _ | exact Kd.R_nil _ _ _ _ _⟩, ⟨hC_⟩⟩
 case round =>
  clear H'
  try clear c1
  obtain ⟨x1, x0, rfl, HA, HK1, O0, HB⟩ := hrel
  cases gk with
  | zero => exact absurd HA.out (by simp [sleuthref12_CopyNodes.l0])
  | succ k1 =>
   have H := HA.out
   clear HA
   simp only [sleuthref12_CopyNodes.l0] at H
   by_cases c2 : x0 < (l0.length : Int)
   case neg =>
    rw [if_neg c2] at H
    have c2b0 : decide (x0 < (l0.length : Int)) = false := decide_eq_false c2
    clear c2
    obtain rfl := Option.some.inj H
    go_wp2
    go_ret
    exact ⟨_, hV_, by (with_reducible repeat (first | apply Kd.S_alloc | apply Kd.S_drewN | apply Kd.S_drew)); exact O0.out, hC_⟩

   rw [if_pos c2] at H
   have c2b0 : decide (x0 < (l0.length : Int)) = true := decide_eq_true c2
   clear c2
   replace H := ifI_ H; obtain ⟨c3, H⟩ := H
   have c3b0 : decide (0 ≤ x0) = true := decide_eq_true c3
   clear c3
   obtain ⟨y1, i0⟩ : ∃ y_ : List ByteArray, y_ = (([] : List ByteArray)) := ⟨_, rfl⟩
   replace H : (if y1.length + ((rd_T57 l0 x0).f2).length < 8796093022208 then (if x1.length < 2513169434916 then (sleuthref12_CopyNodes.l0 k1 l0 (x1 ++ [(⟨(rd_T57 l0 x0).f0, (rd_T57 l0 x0).f1, (y1 ++ ((rd_T57 l0 x0).f2)), (rd_T57 l0 x0).f3⟩ : S57)]) (wrap64 (x0 + 1))) else (none)) else (none)) = some r := by first | (rw [i0]; with_reducible exact H) | (have H2_ := (Option.bind_some _ _).symm.trans H; rw [i0]; with_reducible exact H2_) | (have H2_ := (Option.bind_some _ _).symm.trans H; with_reducible exact H2_) | with_reducible exact H | (rw [i0]; exact H) | exact H
   have Y0 := a_ i0
   clear i0
   replace H := ifI_ H; obtain ⟨c4, H⟩ := H
   have LMc4 := a_ c4
   clear c4
   obtain ⟨y0, i1⟩ : ∃ y_ : List ByteArray, y_ = (y1 ++ ((rd_T57 l0 x0).f2)) := ⟨_, rfl⟩
   replace H : (if x1.length < 2513169434916 then (sleuthref12_CopyNodes.l0 k1 l0 (x1 ++ [(⟨(rd_T57 l0 x0).f0, (rd_T57 l0 x0).f1, y0, (rd_T57 l0 x0).f3⟩ : S57)]) (wrap64 (x0 + 1))) else (none)) = some r := by first | (rw [i1]; with_reducible exact H) | (have H2_ := (Option.bind_some _ _).symm.trans H; rw [i1]; with_reducible exact H2_) | (have H2_ := (Option.bind_some _ _).symm.trans H; with_reducible exact H2_) | with_reducible exact H | (rw [i1]; exact H) | exact H
   have Y1 := a_ i1
   clear i1
   replace H := ifI_ H; obtain ⟨c5, H⟩ := H
   have LMc5 := a_ c5
   clear c5
   obtain ⟨y2, i2⟩ : ∃ y_ : List (S57), y_ = (x1 ++ [(⟨(rd_T57 l0 x0).f0, (rd_T57 l0 x0).f1, y0, (rd_T57 l0 x0).f3⟩ : S57)]) := ⟨_, rfl⟩
   replace H : (sleuthref12_CopyNodes.l0 k1 l0 y2 (wrap64 (x0 + 1))) = some r := by first | (rw [i2]; with_reducible exact H) | (have H2_ := (Option.bind_some _ _).symm.trans H; rw [i2]; with_reducible exact H2_) | (have H2_ := (Option.bind_some _ _).symm.trans H; with_reducible exact H2_) | with_reducible exact H | (rw [i2]; exact H) | exact H
   have Y2 := a_ i2
   clear i2
   have H' := a_ H
   clear H
   have p273 : 0 ≤ (x0 : Int) := of_decide_eq_true hA_
   have q273 : x0 < (l0.length : Int) := of_decide_eq_true hA_
   obtain ⟨d0, A273_2, c273_2, e273, h0, h1, h2, h3, hl273_2, hi273_2⟩ := at_T57 HR0.out x0 p273 q273
   cases e273
   replace h0 := cl_ HB.out h0
   replace h1 := cl_ HB.out h1
   replace h2 := cl_ HB.out h2
   replace h3 := cl_ HB.out h3
   have HR273_2 := a_ hi273_2
   have HC273_2 := a_ hl273_2
   clear hi273_2 hl273_2
   replace p273 := eq_true p273
   replace q273 := eq_true q273
   go_wp2_with (first | ((with_reducible refine gate_dst (N := 5) rfl ?_); refine boxE_ 5 #[.int .i64 0, .int .i64 0, .slice none 0 0, .string (⟨#[]⟩ : ByteArray)] 57 ?_; intro g0 hg w6 hbox hb; replace O0 := a_ (Kd.S_below (Kd.S_elderB (by (with_reducible repeat (first | apply Kd.S_alloc | apply Kd.S_drewN | apply Kd.S_drew)); exact O0.out) g0 (Nat.le_of_eq hg.symm)) hb); have B0 := a_ (hbox); have E0 := a_ ((gE_ hg : w.heap.size ≤ g0)); replace HB := a_ (below_step hB_ hb); clear hb hbox hg; obtain ⟨z0, z1, z2, z3, f4, f5, f6, f7⟩ := bx4_ B0.out) | ((with_reducible refine gate_dst (N := 16) rfl ?_); refine Kd.R_lit Kd.string _ 9 ?hg (N := 16) ?hd (xs := ([] : List ByteArray)) (inner := []) (ok := fun _ => True) (okp := fun _ => True) ?hr ?hp (fun _ hk => hk) trivial (Below.refl _ _) (Nat.le_refl _) (by simp) ?_; (case hd => rfl); (case hg => rfl); (case hr => first | (go_simp; done) | (go_simp; rfl)); (case hp => exact (Reps.none _ _)); intro v0 w8 ho9 hb hg_ hnew_; clear hg_ hnew_; (first | rw [← Y0.out] at ho9 | (simp only [Int.reduceToNat] at ho9; rw [← Y0.out] at ho9)); replace O0 := a_ (Kd.S_elder' (by (with_reducible repeat (first | apply Kd.S_alloc | apply Kd.S_drewN | apply Kd.S_drew)); exact (Kd.S_mono (sF_ (sF_ (sF_ (sF_ (Kd.S_mono O0.out (fun k_ hk => (⟨hk, hk.2⟩ : _ ∧ k_ ≠ g0))))))) (fun _ h_ => h_.1))) (Kd.R_base ho9) hb); have P1 := a_ (Kd.R_lower ho9 (below_size hC_)); replace B0 := a_ (blk_below (g := g0) (o := .cells #[.int .i64 ((rd_T57 l0 x0).f0), .int .i64 ((rd_T57 l0 x0).f1), .slice A273_2 ((rd_T57 l0 x0).f2).length c273_2, .string ((rd_T57 l0 x0).f3)] 57 (0, 0)) (by (with_reducible repeat (first | refine blk_drewN ?_ _ | refine blk_drew ?_ | refine blk_alloc ?_ _)); exact (bP_ (bP_ (bP_ (bP_ (hK_ B0.out)))))) hb); replace HB := a_ (below_step hC_ hb); clear hb ho9; obtain ⟨z4, z5, z6, z7, f8, f9, f10, f11⟩ := bx4_ B0.out) | ((with_reducible refine gate_builtin (b := .append) (xs := #[.tmp 16, .tmp 18]) rfl ?_); at_builtin; refine Kd.R_append_rows Kd.string (w0 := w) w.heap.size rfl (.tmp 16) (.tmp 18) 55 9 (.string ⟨#[]⟩) 16 rfl Tryz.underlying55 info9 rfl (by decide) (by omega) v0 y1 ((rd_T57 l0 x0).f2) _ _ _ (fun _ => True) (fun _ => False) rfl rfl ?aO ?aR (fun _ _ h => h) (fun _ h => h.elim) ?aF ?aB ?aS ?aL ?_; (case aR => exact cB_ HR273_2.out); (case aB => exact hC_); (case aF => exact (fun _ _ => trivial)); (case aO => exact (hR_ P1.out)); (case aS => exact (below_size hC_)); (case aL => have := LMc4.out; omega); intro v1 w3 ho hb hg hat; rw [← Y1.out] at ho; replace O0 := a_ (Kd.S_after (ok := (fun k_ => k_ ≠ g0)) (by (with_reducible repeat (first | apply Kd.S_alloc | apply Kd.S_drewN | apply Kd.S_drew)); exact Kd.S_mono O0.out (fun _ hk => ⟨hk.1.2, hk.2⟩)) hg hat); replace B0 := a_ (blk_grown (hK_ B0.out) hg (Kd.R_ne P1.out B0.out (by decide))); replace HB := a_ (hb); have P0 := a_ (ho); clear P1; clear ho hb hg hat; obtain ⟨a0, o0, e0⟩ := Kd.R_slice P0.out; subst e0; obtain ⟨z8, z9, z10, z11, f12, f13, f14, f15⟩ := bx4_ B0.out) | ((with_reducible refine gate_store (t := 55) (p := 20) rfl ?_); refine store_event (t := 55) (p := 20) (v := ?vo_w14) (w1 := (w3.setCell ⟨g0, 2, none⟩ (.slice a0 y0.length o0))) ?hg ?ho ?hn ?hr ?_; (case ho => rfl); (case hg => rfl); (case hn => rfl); (case hr => first | (go_simp; done) | (go_simp; rfl)); intro w2 hw; replace O0 : Aside0 (Kd.S k57 57 w2 w.heap.size (fun k_ => some k_ ≠ (.slice a0 y0.length o0 : Value).ownBlock ∧ k_ ≠ g0) u3 x1) := ⟨(by rw [hw]; exact (by (with_reducible repeat (first | apply Kd.S_alloc | apply Kd.S_drewN | apply Kd.S_drew)); exact Kd.S_mono (sF_ (Kd.S_mono O0.out (fun k_ hk => (⟨hk, hk.1⟩ : _ ∧ k_ ≠ g0)))) (fun _ hk => ⟨hk.1.2, hk.1.1⟩)))⟩; replace P0 : Aside0 (Kd.R Kd.string 9 w2 w.heap.size (fun _ => True) (.slice a0 y0.length o0) y0) := ⟨(by rw [hw]; exact (by (with_reducible repeat (first | apply Kd.R_alloc | apply Kd.R_drewN | apply Kd.R_drew)); exact Kd.R_mono (rF_ (Kd.R_types P0.out B0.out (by decide))) (fun _ hk => trivial)))⟩; replace B0 : Aside0 (w2.heap[g0]? = some (.cells #[.int .i64 ((rd_T57 l0 x0).f0), .int .i64 ((rd_T57 l0 x0).f1), .slice a0 y0.length o0, .string ((rd_T57 l0 x0).f3)] 57 (0, 0))) := ⟨(by rw [hw]; exact (bP_ (hK_ B0.out)))⟩; replace HB : Aside0 (Below w.heap.size w w2) := ⟨(by rw [hw]; exact hC_)⟩; clear hw; obtain ⟨z12, z13, z14, z15, f16, f17, f18, f19⟩ := bx4_ B0.out) | ((with_reducible refine gate_builtin (b := .append) (xs := #[.tmp 21, .tmp 23]) rfl ?_); at_builtin; refine Kd.S_append k57 (w0 := w) w.heap.size rfl (.tmp 21) (.tmp 23) 22 57 (.agg #[(.int .i64 0), (.int .i64 0), (.slice none 0 0), (.string ⟨#[]⟩)]) 56 rfl Tryz.underlying22 info57 rfl (by decide) (by omega) u3 x1 (⟨(rd_T57 l0 x0).f0, (rd_T57 l0 x0).f1, y0, (rd_T57 l0 x0).f3⟩ : S57) [.int .i64 ((rd_T57 l0 x0).f0), .int .i64 ((rd_T57 l0 x0).f1), .slice a0 y0.length o0, .string ((rd_T57 l0 x0).f3)] (fun k_ => k_ ≠ g0) (fun k_ => some k_ = (.slice a0 y0.length o0 : Value).ownBlock) rfl rfl ?aP (fun k_ hk_ => ((Kd.R_mono (ok' := fun k_ => ((fun k_ => k_ ≠ g0)) k_ ∧ some k_ ≠ (u3 : Value).ownBlock) (Kd.R_types (Kd.R_apart' (P0.out) (Kd.S_typed O0.out) (by decide)) B0.out (by decide)) (fun k_ hk => ⟨hk.2, hk.1.2⟩))).1 k_ hk_.symm) ?aF ?aO ?aB ?aS ?aL ?_; (case aP => exact k57_mkM _ _ _ (⟨(rd_T57 l0 x0).f0, (rd_T57 l0 x0).f1, y0, (rd_T57 l0 x0).f3⟩ : S57) (Kd.R_mono (Kd.R_tight rfl (Kd.R_mono (ok' := fun k_ => ((fun k_ => k_ ≠ g0)) k_ ∧ some k_ ≠ (u3 : Value).ownBlock) (Kd.R_types (Kd.R_apart' (P0.out) (Kd.S_typed O0.out) (by decide)) B0.out (by decide)) (fun k_ hk => ⟨hk.2, hk.1.2⟩))) (fun _ h_ => h_))); (case aB => exact hC_); (case aF => exact (fun k_ hk => Kd.freshB (g := g0) (o := .cells #[.int .i64 ((rd_T57 l0 x0).f0), .int .i64 ((rd_T57 l0 x0).f1), .slice a0 y0.length o0, .string ((rd_T57 l0 x0).f3)] 57 (0, 0)) (hK_ B0.out) k_ hk)); (case aO => exact (by (with_reducible repeat (first | apply Kd.S_alloc | apply Kd.S_drewN | apply Kd.S_drew)); exact Kd.S_mono O0.out (fun k_ hk => ⟨hk.2, fun e_ => hk.1 e_⟩))); (case aS => exact (below_size hC_)); (case aL => have := LMc5.out; omega); intro v2 w4 ho hb hg hat; rw [← Y2.out] at ho; replace B0 := a_ (blk_grown (hK_ B0.out) hg (Kd.S_away O0.out (fun _ hk => hk.2))); replace HB := a_ (hb); have P2 := a_ (ho); clear O0 P0; clear ho hb hg hat))
   go_roundg k1
   case measure => have := HK1.out; omega
   case rel => exact ⟨(y2), (wrap64 (x0 + 1)), hW_, H', ⟨by have := HK1.out; omega⟩, ⟨by (with_reducible repeat (first | apply Kd.S_alloc | apply Kd.S_drewN | apply Kd.S_drew)); exact Kd.S_mono P2.out (fun _ hk => trivial)⟩, ⟨hC_⟩⟩
def sleuthref12_NewSession.f (k : Nat) (l0 : List (S57)) (a1 : Int) : Option ((List (S57)) × Int × (List (S46)) × Int) := (sleuthref12_TrailMay.f k l0).bind fun t285 => (if t285 = true then ((sleuthref12_upTo.f a1 0 1).bind fun t286 => (if t286 = true then ((sleuthref12_CopyNodes.f k l0).bind fun t287 => (some (t287, a1, ([] : List (S46)), 0))) else (some (([] : List (S57)), 0, ([] : List (S46)), 2100)))) else (some (([] : List (S57)), 0, ([] : List (S46)), 2100)))
theorem sleuthref12_NewSession.calls (k : Nat) (A0 : Option Addr) (c0 : Nat) (l0 : List (S57)) (a1 : Int) (r1 : List (S57)) (r2 : Int) (r3 : List (S46)) (r4 : Int) (w : World) (hr0 : Kd.C k57 w A0 l0.length l0) (hc0 : l0.length ≤ c0) (h : sleuthref12_NewSession.f k l0 a1 = some (r1, r2, r3, r4)) :
 Calls Tryz.prog 6 #[.slice A0 l0.length c0, .int .i64 a1] w fun e w' => ∃ v0_ v2_ : Value, e = .returned (.tuple #[.agg #[v0_, .int .i64 r2, v2_], .int .i64 r4]) ∧ Kd.S k57 57 w' w.heap.size (fun _ => True) v0_ r1 ∧ Kd.R k46 46 w' w.heap.size (fun _ => True) v2_ r3 ∧ Below w.heap.size w w' := by
 have hu25 := Tryz.underlying25
 have HR0 := a_ hr0
 have HC0 := a_ hc0
 clear hr0 hc0
 have HB := a_ (Below.refl w.heap.size w)
 have H := h; unfold sleuthref12_NewSession.f at H
 clear h
 replace H := Option.bind_eq_some_iff.mp H
 obtain ⟨t1, A30, H⟩ := H
 try dsimp only at H
 have A3 := a_ A30
 clear A30
 by_cases c4 : t1 = true
 case neg =>
  replace c4 := Bool.eq_false_iff.mpr c4
  subst c4
  rw [if_neg (show ¬ (false = true) by decide)] at H
  simp only [Option.some.injEq, Prod.mk.injEq] at H
  obtain ⟨rfl, rfl, rfl, rfl⟩ := H
  go_enter Tryz.func6, Tryz.ntmps6
  go_wp2_with (first | ((with_reducible refine gate_dst (N := 4) rfl ?_); refine boxE_ 4 #[.slice none 0 0, .int .i64 0, .slice none 0 0] 25 ?_; intro g0 hg w1 hbox hb; have B0 := a_ (hbox); have E0 := a_ ((gE_ hg : w.heap.size ≤ g0)); replace HB := a_ (below_step hB_ hb); clear hb hbox hg) | ((with_reducible refine gate_callee (f := 16) rfl ?_); refine goesL_ (some 7) rfl rfl Tryz.func16 (by kernel_rfl) rfl #[.slice A0 l0.length c0] rfl hL_ ?_; (with_reducible refine (sleuthref12_TrailMay.calls k _ _ l0 false _ ?s1 ?s2 A3.out).mono ?_); (case s1 => exact cB_ HR0.out); (case s2 => exact HC0.out); rintro e w2 ⟨rfl, hb⟩; refine ⟨_, rfl, ?_⟩; replace B0 := a_ (bB_ B0.out hb); replace HB := a_ (below_step hC_ hb); (try clear hb); (try clear hb2); (try clear hk); (try clear hi); obtain ⟨z0, z1, z2, f0, f1, f2⟩ := bx3_ B0.out))
  refine bodyPost_ret (results_ct rfl _ _ g0 25 #[.slice none 0 0, .int .i64 0, .slice none 0 0] (0, 0) _ rfl (bP_ (bP_ (bP_ (hK_ B0.out)))) Tryz.underlying25 rfl (by kernel_rfl)) rfl ?_
  exact ⟨_, _, hV_, by first | exact Kd.S_nil _ _ _ _ _ | exact Kd.N_nil _ _ _ _ _ | exact Kd.V_nil _ _ _ _ _ | exact Kd.Q_nil _ _ _ _ _ | exact Kd.R_nil _ _ _ _ _, by first | exact Kd.R_nil _ _ _ _ _ | exact Kd.N_nil _ _ _ _ _ | exact Kd.V_nil _ _ _ _ _ | exact Kd.Q_nil _ _ _ _ _ | exact Kd.S_nil _ _ _ _ _, hC_⟩

 subst c4
 rw [if_pos rfl] at H
 replace H := Option.bind_eq_some_iff.mp H
 obtain ⟨t2, A50, H⟩ := H
 try dsimp only at H
 have A5 := a_ A50
 clear A50
 by_cases c6 : t2 = true
 case neg =>
  replace c6 := Bool.eq_false_iff.mpr c6
  subst c6
  rw [if_neg (show ¬ (false = true) by decide)] at H
  simp only [Option.some.injEq, Prod.mk.injEq] at H
  obtain ⟨rfl, rfl, rfl, rfl⟩ := H
  go_enter Tryz.func6, Tryz.ntmps6
  go_wp2_with (first | ((with_reducible refine gate_dst (N := 4) rfl ?_); refine boxE_ 4 #[.slice none 0 0, .int .i64 0, .slice none 0 0] 25 ?_; intro g0 hg w3 hbox hb; have B0 := a_ (hbox); have E0 := a_ ((gE_ hg : w.heap.size ≤ g0)); replace HB := a_ (below_step hB_ hb); clear hb hbox hg) | ((with_reducible refine gate_callee (f := 16) rfl ?_); refine goesL_ _ rfl rfl Tryz.func16 (by kernel_rfl) rfl #[.slice A0 l0.length c0] rfl hL_ ?_; (with_reducible refine (sleuthref12_TrailMay.calls k _ _ l0 true _ ?s1 ?s2 A3.out).mono ?_); (case s1 => exact cB_ HR0.out); (case s2 => exact HC0.out); rintro e w0 ⟨rfl, hb⟩; refine ⟨_, rfl, ?_⟩; replace B0 := a_ (bB_ B0.out hb); replace HB := a_ (below_step hC_ hb); (try clear hb); (try clear hb2); (try clear hk); (try clear hi)) | (go_at_call 17; (with_reducible refine (sleuthref12_upTo.calls a1 0 1 false _ A5.out).mono ?_); rintro e w' ⟨rfl, ⟨nd, rfl⟩⟩; (try (rw [drewN_self w0]; generalize hq_ : World.drewN w0 _ = w0; replace B0 : Aside0 (w0.heap[g0]? = some (.cells #[.slice none 0 0, .int .i64 0, .slice none 0 0] 25 (0, 0))) := ⟨by rw [← hq_]; exact (hK_ B0.out)⟩; replace HB : Aside0 (Below w.heap.size w w0) := ⟨by rw [← hq_]; exact hC_⟩; clear hq_; (try have hcu0_0 := bc0_ B0.out); (try have hfu0_0 := blk_frozen B0.out 0); (try have hcu0_1 := bc1_ B0.out); (try have hfu0_1 := blk_frozen B0.out 1); (try have hcu0_2 := bc2_ B0.out); (try have hfu0_2 := blk_frozen B0.out 2))); obtain ⟨z3, z4, z5, f3, f4, f5⟩ := bx3_ B0.out))
  refine bodyPost_ret (results_ct rfl _ _ g0 25 #[.slice none 0 0, .int .i64 0, .slice none 0 0] (0, 0) _ rfl (bP_ (bP_ (bP_ (hK_ B0.out)))) Tryz.underlying25 rfl (by kernel_rfl)) rfl ?_
  exact ⟨_, _, hV_, by first | exact Kd.S_nil _ _ _ _ _ | exact Kd.N_nil _ _ _ _ _ | exact Kd.V_nil _ _ _ _ _ | exact Kd.Q_nil _ _ _ _ _ | exact Kd.R_nil _ _ _ _ _, by first | exact Kd.R_nil _ _ _ _ _ | exact Kd.N_nil _ _ _ _ _ | exact Kd.V_nil _ _ _ _ _ | exact Kd.Q_nil _ _ _ _ _ | exact Kd.S_nil _ _ _ _ _, hC_⟩
 subst c6
 rw [if_pos rfl] at H
 replace H := Option.bind_eq_some_iff.mp H
 obtain ⟨t0, A70, H⟩ := H
 try dsimp only at H
 have A7 := a_ A70
 clear A70
 simp only [Option.some.injEq, Prod.mk.injEq] at H
 obtain ⟨rfl, rfl, rfl, rfl⟩ := H
 go_enter Tryz.func6, Tryz.ntmps6
 go_wp2_with (first | ((with_reducible refine gate_dst (N := 4) rfl ?_); refine boxE_ 4 #[.slice none 0 0, .int .i64 0, .slice none 0 0] 25 ?_; intro g0 hg w8 hbox hb; have B0 := a_ (hbox); have E0 := a_ ((gE_ hg : w.heap.size ≤ g0)); replace HB := a_ (below_step hB_ hb); clear hb hbox hg) | ((with_reducible refine gate_callee (f := 16) rfl ?_); refine goesL_ _ rfl rfl Tryz.func16 (by kernel_rfl) rfl #[.slice A0 l0.length c0] rfl hL_ ?_; (with_reducible refine (sleuthref12_TrailMay.calls k _ _ l0 true _ ?s1 ?s2 A3.out).mono ?_); (case s1 => exact cB_ HR0.out); (case s2 => exact HC0.out); rintro e w9 ⟨rfl, hb⟩; refine ⟨_, rfl, ?_⟩; replace B0 := a_ (bB_ B0.out hb); replace HB := a_ (below_step hC_ hb); (try clear hb); (try clear hb2); (try clear hk); (try clear hi)) | (go_at_call 17; (with_reducible refine (sleuthref12_upTo.calls a1 0 1 true _ A5.out).mono ?_); rintro e w' ⟨rfl, ⟨nd, rfl⟩⟩; (try (rw [drewN_self w9]; generalize hq_ : World.drewN w9 _ = w9; replace B0 : Aside0 (w9.heap[g0]? = some (.cells #[.slice none 0 0, .int .i64 0, .slice none 0 0] 25 (0, 0))) := ⟨by rw [← hq_]; exact (hK_ B0.out)⟩; replace HB : Aside0 (Below w.heap.size w w9) := ⟨by rw [← hq_]; exact hC_⟩; clear hq_; (try have hcu0_0 := bc0_ B0.out); (try have hfu0_0 := blk_frozen B0.out 0); (try have hcu0_1 := bc1_ B0.out); (try have hfu0_1 := blk_frozen B0.out 1); (try have hcu0_2 := bc2_ B0.out); (try have hfu0_2 := blk_frozen B0.out 2)))) | ((with_reducible refine gate_callee (f := 18) rfl ?_); refine goesL_ (some 16) rfl rfl Tryz.func18 (by kernel_rfl) rfl #[.slice A0 l0.length c0] rfl hL_ ?_; (with_reducible refine (sleuthref12_CopyNodes.calls k _ _ l0 t0 _ ?s1 ?s2 A7.out).mono ?_); (case s1 => exact cB_ HR0.out); (case s2 => exact HC0.out); rintro e w4 ⟨v0, rfl, ho0, hb⟩; refine ⟨_, rfl, ?_⟩; have P0 := a_ (Kd.S_lower ho0 (below_size hC_)); replace B0 := a_ (bB_ B0.out hb); replace HB := a_ (below_step hC_ hb); (try clear hb); (try clear hb2); (try clear hk); (try clear hi); (try clear ho0); obtain ⟨a0, o0, e0⟩ := Kd.S_slice P0.out; subst e0; obtain ⟨z6, z7, z8, f6, f7, f8⟩ := bx3_ B0.out))
 refine bodyPost_ret (results_ct rfl _ _ g0 25 #[.slice a0 t0.length o0, .int .i64 a1, .slice none 0 0] (0, 0) _ rfl (bP_ (bP_ (bP_ (hK_ B0.out)))) Tryz.underlying25 rfl (by kernel_rfl)) rfl ?_
 exact ⟨_, _, hV_, by (with_reducible repeat (first | apply Kd.S_alloc | apply Kd.S_drewN | apply Kd.S_drew)); exact Kd.S_mono (sF_ (sF_ (sF_ (Kd.S_types P0.out B0.out (by decide))))) (fun _ hk => trivial), by first | exact Kd.R_nil _ _ _ _ _ | exact Kd.N_nil _ _ _ _ _ | exact Kd.V_nil _ _ _ _ _ | exact Kd.Q_nil _ _ _ _ _ | exact Kd.S_nil _ _ _ _ _, hC_⟩
end Go.Proofs.YtijamgfpgdiigaaGreatDoor.G
end
section
namespace Go.Proofs.YtijamgfpgdiigaaGreatDoor.G
open Go.RowKit Go.Proofs.YtijamgfpgdiigaaGreatDoorW.PrintWords Go.Proofs.YtijamgfpgdiigaaGreatDoorW.PrintLast Go.Proofs.YtijamgfpgdiigaaGreatDoorW.PrintMore
set_option linter.unusedVariables false
set_option linter.unusedSimpArgs false
theorem refCopy_l0 (ns : List Nd) (hok : okN ns) : ∀ (n i : Nat), i + n = ns.length → Ev (fun k => sleuthref12_CopyNodes.l0 k ns (ns.take i) (i : Int)) ns := by
  intro n
  induction n with
  | zero =>
    intro i hi
    refine Ev.step (f := fun _ => some ns) (fun k => ?_) (Ev.now _)
    simp only [sleuthref12_CopyNodes.l0]
    rw [if_neg (by omega), List.take_of_length_le (by omega)]
  | succ n ih =>
    intro i hi
    have hlt : i < ns.length := by omega
    have hl := hok.1
    have hw : wrap64 ((i : Int) + 1) = ((i + 1 : Nat) : Int) := by rw [w64 (by omega) (by omega)]; omega
    refine Ev.step (f := fun k => sleuthref12_CopyNodes.l0 k ns (ns.take (i + 1)) ((i + 1 : Nat) : Int)) (fun k => ?_) (ih (i + 1) (by omega))
    have hat := hok.at (i : Int)
    simp only [sleuthref12_CopyNodes.l0, Option.bind_some, List.nil_append]
    rw [if_pos (by omega), if_pos (by omega), if_pos (show ([] : List ByteArray).length + (rn ns (i : Int)).f2.length < 8796093022208 by rw [List.length_nil]; omega), if_pos (by rw [List.length_take]; omega), hw]
    have : (ns.take i ++ [(⟨(rn ns (i : Int)).f0, (rn ns (i : Int)).f1, (rn ns (i : Int)).f2, (rn ns (i : Int)).f3⟩ : Nd)]) = ns.take (i + 1) := by
      rw [List.take_succ_eq_append_getElem hlt, rn_eq ns i hlt]
    rw [this]
theorem refCopy_ev (ns : List Nd) (hok : okN ns) : Ev (fun k => sleuthref12_CopyNodes.f k ns) ns := refCopy_l0 ns hok ns.length 0 (by omega)
theorem refNew_no (ns : List Nd) (hok : okN ns) (d : Int) (hm : mayT ns = false) : Ev (fun k => sleuthref12_NewSession.f k ns d) ([], 0, [], 2100) := by
  unfold sleuthref12_NewSession.f
  have ht := refTrail_ev ns hok
  rw [hm] at ht
  refine Ev.bind ht ?_
  simp only [if_neg Bool.false_ne_true]
  exact Ev.now _
theorem refNew_yes (ns : List Nd) (hok : okN ns) (d : Int) (hm : mayT ns = true) (hw : wayB d = true) : Ev (fun k => sleuthref12_NewSession.f k ns d) (ns, d, [], 0) := by
  unfold sleuthref12_NewSession.f
  have ht := refTrail_ev ns hok
  rw [hm] at ht
  refine Ev.bind ht ?_
  simp only [if_pos, wayR_eq, Option.bind_some, hw]
  exact Ev.bind (refCopy_ev ns hok) (Ev.now _)
end Go.Proofs.YtijamgfpgdiigaaGreatDoor.G
end
section
namespace Go.Proofs.YtijamgfpgdiigaaGreatDoor.G
open Go.RowKit Go.Proofs.YtijamgfpgdiigaaGreatDoorW.PrintWords Go.Proofs.YtijamgfpgdiigaaGreatDoorW.PrintLast Go.Proofs.YtijamgfpgdiigaaGreatDoorW.PrintMore
set_option maxHeartbeats 8000000
set_option maxRecDepth 100000
attribute [local go_sem] max2_int min2_int max_two min_two max_three min_three max_four min_four   -- for this text's walks alone
set_option linter.unusedVariables false
set_option linter.unusedSimpArgs false

def sleuthlaw0_SpoilTexts.l0 : Nat → List ByteArray → Int → Option (List ByteArray)
 | 0, _, _ => none
 | k + 1, x0, x2 => if x2 < (x0.length : Int) then (if 0 ≤ x2 then (if 1 + (rdOf ByteArray.empty x0 x2).size ≤ 9223372036854775807 then (sleuthlaw0_SpoilTexts.l0 k (x0.set (x2 : Int).toNat ((⟨#[126]⟩ : ByteArray) ++ (rdOf ByteArray.empty x0 x2))) (wrap64 (x2 + 1))) else (none)) else (none)) else (some x0)
def sleuthlaw0_SpoilTexts.f (k : Nat) (l0 : List ByteArray) : Option (List ByteArray) := sleuthlaw0_SpoilTexts.l0 k l0 0
theorem sleuthlaw0_SpoilTexts.calls (k : Nat) (P0_ : Nat → Prop) (u9000_ : Value) (l0 : List ByteArray) (r : List ByteArray) (w0 w : World) (hB : Below w0.heap.size w0 w) (ho0 : Kd.R Kd.string 9 w w0.heap.size P0_ u9000_ l0) (h : sleuthlaw0_SpoilTexts.f k l0 = some r) :
 Calls Tryz.prog 39 #[u9000_] w fun e w' => e = .returned (.tuple #[]) ∧ Kd.R Kd.string 9 w' w0.heap.size (fun k_ => (P0_ k_ ∨ w.heap.size ≤ k_)) u9000_ r ∧ Below w0.heap.size w0 w' ∧ Kept w w' (fun k_ => P0_ k_) := by
 have P0 := a_ (show Kd.R Kd.string 9 w w0.heap.size (fun k_ => (P0_ k_ ∨ w.heap.size ≤ k_)) u9000_ l0 from Kd.R_mono ho0 (fun k_ hk => (.inl hk)))
 have HK := a_ (Kept.refl w (fun k_ => P0_ k_))
 have HW0 := a_ hB.size
 have HB := a_ hB
 clear hB
 have H : (sleuthlaw0_SpoilTexts.l0 k l0 0) = some r := h
 clear h
 have H' := a_ H
 clear H
 go_enter Tryz.func39, Tryz.ntmps39
 go_wp2
 go_loopg [2] k (fun kq v2 w' => ∃ (x1 : List ByteArray) (x0 : Int), v2 = .int .i64 x0 ∧ Aside0 (sleuthlaw0_SpoilTexts.l0 kq x1 x0 = some r) ∧ Aside0 (kq ≤ k) ∧ Aside0 (Kd.R Kd.string 9 w' w0.heap.size (fun k_ => (P0_ k_ ∨ w.heap.size ≤ k_)) u9000_ x1) ∧ Aside0 (Kept w w' (fun k_ => P0_ k_)) ∧ Aside0 (Below w0.heap.size w0 w'))
 case atStart => exact ⟨(l0), (0), hW_, H', ⟨Nat.le_refl _⟩, ⟨hR_ P0.out⟩, ⟨by repeat (first | (with_reducible first | exact HK.out | apply Kept.alloc | apply Kept.drewN | apply Kept.drew) | exact HK.out)⟩, ⟨hC_⟩⟩
 case round =>
  clear H'
  obtain ⟨x1, x0, rfl, HA, HK1, O0, HK, HB⟩ := hrel
  cases gk with
  | zero => exact absurd HA.out (by simp [sleuthlaw0_SpoilTexts.l0])
  | succ k1 =>
   have H := HA.out
   clear HA
   simp only [sleuthlaw0_SpoilTexts.l0] at H
   by_cases c2 : x0 < (x1.length : Int)
   case neg =>
    rw [if_neg c2] at H
    have c2b0 : decide (x0 < (x1.length : Int)) = false := decide_eq_false c2
    clear c2
    obtain rfl := Option.some.inj H
    obtain ⟨a0, o1, e1⟩ := Kd.R_slice O0.out
    subst e1
    go_wp2
    first | go_end0 | ((try simp only [Exit.inBlock, Exit.then]); refine bodyPost_ret (results_none rfl _ _ _) rfl ?_)
    exact ⟨hV_, hR_ O0.out, hC_, by repeat (first | (with_reducible first | exact HK.out | apply Kept.alloc | apply Kept.drewN | apply Kept.drew) | exact HK.out)⟩

   rw [if_pos c2] at H
   have c2b0 : decide (x0 < (x1.length : Int)) = true := decide_eq_true c2
   clear c2
   replace H := ifI_ H; obtain ⟨c3, H⟩ := H
   have c3b0 : decide (0 ≤ x0) = true := decide_eq_true c3
   clear c3
   replace H := ifI_ H; obtain ⟨c4, H⟩ := H
   have c4b0 := eq_true c4
   have c4b1 : decide (1 + (rdOf ByteArray.empty x1 x0).size ≤ 9223372036854775807) = true := decide_eq_true c4
   try have c4b2 : (9223372036854775807 < 1 + (rdOf ByteArray.empty x1 x0).size) = False := eq_false (Nat.not_lt.2 c4)
   obtain ⟨y0, i0⟩ : ∃ y_ : List ByteArray, y_ = (x1.set (x0 : Int).toNat ((⟨#[126]⟩ : ByteArray) ++ (rdOf ByteArray.empty x1 x0))) := ⟨_, rfl⟩
   replace H : (sleuthlaw0_SpoilTexts.l0 k1 y0 (wrap64 (x0 + 1))) = some r := by first | (rw [i0]; with_reducible exact H) | (have H2_ := (Option.bind_some _ _).symm.trans H; rw [i0]; with_reducible exact H2_) | (have H2_ := (Option.bind_some _ _).symm.trans H; with_reducible exact H2_) | with_reducible exact H | (rw [i0]; exact H) | exact H
   have Y0 := a_ i0
   clear i0
   have H' := a_ H
   clear H
   obtain ⟨a1, o0, e2⟩ := Kd.R_slice O0.out
   subst e2
   have p419 : 0 ≤ (x0 : Int) := of_decide_eq_true hA_
   have q419 : x0 < (x1.length : Int) := of_decide_eq_true hA_
   obtain ⟨d0, e419, h0⟩ := Kd.at_string (Kd.R_reads' O0.out).2.2 x0 p419 q419
   cases e419
   replace p419 := eq_true p419
   replace q419 := eq_true q419
   have p5 : 0 ≤ (x0 : Int) := of_decide_eq_true hA_
   have q5 : (x0 : Int) < ((x1.length : Int) : Int) := of_decide_eq_true hA_
   obtain ⟨j0, o2, e0, g0, gl5, cl5, HG5⟩ := Kd.R_form O0.out (by omega)
   (first | cases e0 | (injection e0 with ea_ en_ ec_; (first | subst ea_ | (injection ea_ with ea_; subst ea_)); subst ec_; clear en_))
   have J0 := a_ g0
   have K0 := a_ HG5
   clear g0 gl5 HG5
   have HMgo5 := a_ (show (P0_ j0 ∨ w.heap.size ≤ j0) from (O0.out.1 _ rfl))
   (first | simp only [add_plain] at h0 | skip)
   obtain ⟨h1, hf5_0⟩ := Kd.R_celln (⟨#[]⟩ : ByteArray) O0.out (x0 : Int) p5 q5
   replace p5 := eq_true p5
   replace q5 := eq_true q5
   have HP7 := Kd.R_putg O0.out (x0 : Int) ((⟨#[126]⟩ : ByteArray) ++ (rdOf ByteArray.empty x1 x0))
   go_wp2_with (first | ((with_reducible refine gate_store (t := 9) (p := 16) rfl ?_); refine store_event (t := 9) (p := 16) (v := ?vo_w8) (w1 := (wr.setCell ⟨j0, (x0 : Int).toNat, none⟩ (.string ((⟨#[126]⟩ : ByteArray) ++ (rdOf ByteArray.empty x1 x0))))) ?hg ?ho ?hn ?hr ?_; (case ho => rfl); (case hg => rfl); (case hn => rfl); (case hr => first | (go_simp; done) | (go_simp; rfl)); intro w8 hw; have hg : wr.grownBy w8 (some j0) := (by rw [hw]; exact HP7.2); have hp_ : Kd.R Kd.string 9 w8 w0.heap.size (fun k_ => (P0_ k_ ∨ w.heap.size ≤ k_)) (.slice (some ⟨j0, 0, none⟩) x1.length o0) y0 := (by rw [hw, Y0.out]; exact HP7.1); clear HP7; replace HB := a_ ((by rw [hw]; exact below_set (HB.out) J0.out : Below w0.heap.size w0 w8)); replace HK := a_ (Kept.of_grown (S := (fun k_ => P0_ k_)) hg (by repeat (first | (with_reducible first | exact HK.out | apply Kept.alloc | apply Kept.drewN | apply Kept.drew) | exact HK.out)) (fun k_ e_ => (O0.out.1 k_ e_))); replace O0 := a_ (hp_); clear hg hw hp_))
   go_roundg k1
   case measure => have := HK1.out; omega
   case rel => exact ⟨(y0), (wrap64 (x0 + 1)), hW_, H', ⟨by have := HK1.out; omega⟩, ⟨hR_ O0.out⟩, ⟨by repeat (first | (with_reducible first | exact HK.out | apply Kept.alloc | apply Kept.drewN | apply Kept.drew) | exact HK.out)⟩, ⟨hC_⟩⟩
set_option maxHeartbeats 8000000
set_option maxRecDepth 100000
attribute [local go_sem] max2_int min2_int max_two min_two max_three min_three max_four min_four   -- for this text's walks alone
set_option linter.unusedVariables false
set_option linter.unusedSimpArgs false

theorem wsuccP (x : Int) (h0 : 0 ≤ x) (h1 : x ≤ 9223372036854775806) : wrap64 (x + 1) = x + 1 := by unfold wrap64; omega
def sn_ok (l0 : List S57) : Bool := decide (l0.length ≤ 9223372036854775806) && l0.all (fun x => decide (x.f2.length ≤ 9223372036854775806) && x.f2.all (fun s => decide (s.size ≤ 9223372036854775806)))
def sleuthlaw0_SpoilNodes.f (k : Nat) (l0 : List S57) : Option Unit := if sn_ok l0 = true then some () else none
theorem sn_ok_spec {l0 : List S57} (h : sn_ok l0 = true) : l0.length ≤ 9223372036854775806 ∧ ∀ x ∈ l0, x.f2.length ≤ 9223372036854775806 ∧ ∀ s ∈ x.f2, s.size ≤ 9223372036854775806 := by
 unfold sn_ok at h
 rw [Bool.and_eq_true] at h
 refine ⟨of_decide_eq_true h.1, fun x hx => ?_⟩
 have h1 := List.all_eq_true.1 h.2 x hx
 rw [Bool.and_eq_true] at h1
 exact ⟨of_decide_eq_true h1.1, fun s hs => of_decide_eq_true (List.all_eq_true.1 h1.2 s hs)⟩
theorem spt_l0 : ∀ (n i : Nat) (l : List ByteArray), i + n = l.length → l.length ≤ 9223372036854775806 → (∀ j s, i ≤ j → l[j]? = some s → s.size ≤ 9223372036854775806) → ∃ k r, sleuthlaw0_SpoilTexts.l0 k l (i : Int) = some r
 | 0, i, l, h, _, _ => ⟨1, l, by rw [sleuthlaw0_SpoilTexts.l0, if_neg (by omega)]⟩
 | n + 1, i, l, h, hl, hs => by
  have hi : i < l.length := by omega
  have e : rdOf ByteArray.empty l (i : Int) = l[i] := by unfold rdOf; rw [Int.toNat_natCast, List.getD_eq_getElem?_getD, List.getElem?_eq_getElem hi]; rfl
  obtain ⟨k, r, h1⟩ := spt_l0 n (i + 1) (l.set i ((⟨#[126]⟩ : ByteArray) ++ l[i])) (by rw [List.length_set]; omega) (by rw [List.length_set]; exact hl) (fun j s hj hjs => hs j s (by omega) (by rw [List.getElem?_set_ne (by omega)] at hjs; exact hjs))
  refine ⟨k + 1, r, ?_⟩
  have e1 : ((i + 1 : Nat) : Int) = (i : Int) + 1 := by omega
  rw [e1] at h1
  rw [sleuthlaw0_SpoilTexts.l0, if_pos (by omega), if_pos (by omega), e, if_pos (by have := hs i _ (Nat.le_refl _) (List.getElem?_eq_getElem hi); omega), Int.toNat_natCast, wsuccP _ (by omega) (by omega)]
  exact h1
theorem grown_of {w0 w w1 : World} {P : Nat → Prop} {row : Option Nat} (hB : Below w0.heap.size w0 w) (hB1 : Below w0.heap.size w0 w1) (hk : Kept w w1 P) (hP : ∀ k, P k → some k = row) : w.grownBy w1 row :=
 ⟨hB1.os.trans hB.os.symm, hB1.tape.trans hB.tape.symm, hB1.output.trans hB.output.symm, hk.1, fun k h1 h2 => hk.2 k h1 (fun h => h2 (hP k h))⟩
theorem sleuthlaw0_SpoilNodes.callsS (ok : Nat → Prop) (v : Value) (l0 : List S57) (w0 w : World) (hB : Below w0.heap.size w0 w) (hS : Kd.S k57 57 w w0.heap.size ok v l0) (hlen : l0.length ≤ 9223372036854775806) (hsz : ∀ x ∈ l0, x.f2.length ≤ 9223372036854775806 ∧ ∀ s ∈ x.f2, s.size ≤ 9223372036854775806) :
 Calls Tryz.prog 25 #[v] w fun e w' => e = .returned (.tuple #[]) ∧ Below w0.heap.size w0 w' ∧ Kept w w' ok := by
 have P1 := a_ hS
 have HB := a_ hB
 clear hB hS
 go_enter Tryz.func25, Tryz.ntmps25
 go_wp2
 go_loopg [2] (l0.length + 1) (fun kq v2 w' => ∃ (xs : List S57) (x : Int), v2 = .int .i64 x ∧ Aside0 ((kq : Int) + x = (l0.length : Int) + 1 ∧ 0 ≤ x ∧ x ≤ (l0.length : Int) ∧ xs.length = l0.length ∧ ∀ j : Nat, x.toNat ≤ j → xs[j]? = l0[j]?) ∧ Aside0 (Kd.S k57 57 w' w0.heap.size ok v xs) ∧ Aside0 (Kept w w' ok) ∧ Aside0 (Below w0.heap.size w0 w'))
 case atStart => exact ⟨l0, 0, rfl, ⟨by omega, by omega, by omega, rfl, fun _ _ => rfl⟩, P1, ⟨Kept.refl _ _⟩, HB⟩
 case round =>
  clear P1 HB
  obtain ⟨xs, x, rfl, HI, HO, HK, HB⟩ := hrel
  cases gk with
  | zero => exact absurd HI.out.1 (by have := HI.out.2.2.1; omega)
  | succ k1 =>
   by_cases c : x < (xs.length : Int)
   case neg =>
    have cb : decide (x < (xs.length : Int)) = false := decide_eq_false c
    clear c
    obtain ⟨Ao, co, eo⟩ := Kd.S_slice HO.out
    subst eo
    go_wp2
    first | go_end0 | ((try simp only [Exit.inBlock, Exit.then]); refine bodyPost_ret (results_none rfl _ _ _) rfl ?_)
    exact ⟨rfl, HB.out, HK.out⟩
   have h6 := HI.out.2.1
   have cb : decide (x < (xs.length : Int)) = true := decide_eq_true c
   have c0b : decide (0 ≤ x) = true := decide_eq_true (by omega)
   obtain ⟨g, cap, ev, hbg, hgl, cl, hgc⟩ := Kd.S_form HO.out (by omega)
   subst ev
   have GB := a_ hbg
   have GC := a_ hgc
   have GL := a_ hgl
   clear hbg hgc hgl
   obtain ⟨oki, c_, hcl, hM, hcc, hoki, hback⟩ := Kd.S_borrow HO.out z57 x (by omega) (by omega)
   obtain ⟨q, hq⟩ : ∃ q, q = xs.getD x.toNat z57 := ⟨_, rfl⟩
   rw [← hq] at hM
   obtain ⟨v2, rfl, hRow⟩ := k57_openM hM
   obtain ⟨A2, c2, e2⟩ := Kd.R_slice hRow
   subst e2
   have h7 : wr.cell? ⟨g, x.toNat * 4 + 2, none⟩ = some (.slice A2 q.f2.length c2) := by have h_ := hcc 2 _ rfl; rw [add_plain] at h_; exact h_
   have HBACK := a_ (@hback)
   have HROW := a_ hRow
   clear hcl hcc hM hback hRow
   have hel : q ∈ l0 := by
    rw [hq]
    obtain ⟨_, _, _, h3, h4⟩ := HI.out
    have hil : x.toNat < l0.length := by omega
    have h5 := h4 x.toNat (Nat.le_refl _)
    rw [List.getElem?_eq_getElem (by omega), List.getElem?_eq_getElem hil] at h5
    rw [List.getD_eq_getElem?_getD, List.getElem?_eq_getElem (by omega), Option.some.inj h5]
    exact List.getElem_mem hil
   obtain ⟨hz1, hz2⟩ := hsz _ hel
   obtain ⟨kt, r, ht⟩ := spt_l0 q.f2.length 0 q.f2 (by omega) hz1 (fun j s _ hjs => hz2 s (List.mem_of_getElem? hjs))
   have HT := a_ (show sleuthlaw0_SpoilTexts.f kt q.f2 = some r from ht)
   have p4 := eq_true h6
   have q4 := eq_true c
   clear ht hz1 hz2 hel c h6 hq
   go_wp2_with (first | ((with_reducible refine gate_callee (f := 39) rfl ?_); refine goesL_ (some 14) rfl rfl Tryz.func39 (by kernel_rfl) rfl #[.slice A2 q.f2.length c2] rfl hL_ ?_; (refine (sleuthlaw0_SpoilTexts.calls kt (fun k_ => some k_ = (.slice A2 q.f2.length c2 : Value).ownBlock) _ _ r w0 _ ?hb ?ho HT.out).mono ?_); (case hb => exact HB.out); (case ho => exact ⟨fun k_ h_ => h_.symm, HROW.out.2.imp_ (fun _ _ h_ => h_)⟩); rintro e w1 ⟨rfl, hr1, hb1, hk1⟩; refine ⟨_, rfl, ?_⟩; have HGR := a_ (grown_of HB.out hb1 hk1 (fun _ h_ => h_)); have P0 := a_ (HBACK.out HGR.out (fun k_ h_ => HROW.out.1 k_ h_) (k57_mkM w1 w0.heap.size oki (⟨q.f0, q.f1, r, q.f3⟩ : S57) (show Kd.string.R 9 w1 w0.heap.size oki (.slice A2 q.f2.length c2) r from ⟨HROW.out.1, hr1.2.imp_ (fun _ _ h_ => h_)⟩))); have HK1 := a_ (HK.out.then_ hk1 (fun k_ h_ => .inl (hoki k_ (HROW.out.1 k_ h_.symm)).1)); have HB1 := a_ hb1; clear HO HK HB HBACK HGR HROW hr1 hb1 hk1 h7; obtain ⟨ys, hys⟩ : ∃ ys, ys = xs.set x.toNat (⟨q.f0, q.f1, r, q.f3⟩ : S57) := ⟨_, rfl⟩; rw [← hys] at P0; have hyl : ys.length = xs.length := (by rw [hys]; exact List.length_set); have HXS := a_ (show Kd.S k57 57 w1 w0.heap.size (fun k_ => ok k_ ∧ ¬ (fun _ => False) k_) (.slice (some ⟨g, 0, none⟩) xs.length cap) ys from Kd.S_mono P0.out (fun _ h_ => ⟨h_, id⟩)); obtain ⟨oki1, c1, hcl1, hM1, hcc1, hfr1, hoki1, hH1⟩ := Kd.S_elem HXS.out z57 x (of_decide_eq_true c0b) (of_decide_eq_true cb); obtain ⟨q1, hq1⟩ : ∃ q1, q1 = ys.getD x.toNat z57 := ⟨_, rfl⟩; rw [← hq1] at hM1; clear hq1; obtain ⟨u2, rfl, hRow1⟩ := k57_openM hM1; have HP := Kd.S_seg (okg := fun _ => False) hH1 (of_decide_eq_true c0b) (of_decide_eq_true cb) (seg := [.int .i64 (Go.bits .xor .i64 q1.f0 90)]) (j := 0) (show 0 + 1 ≤ 4 from by decide) (x' := (⟨Go.bits .xor .i64 q1.f0 90, q1.f1, q1.f2, q1.f3⟩ : S57)) (k57_mkM w1 w0.heap.size oki1 _ hRow1) (fun _ h_ => .inl h_) (fun _ h_ => h_.elim); have h8 : w1.cell? ⟨g, x.toNat * 4, none⟩ = some (.int .i64 q1.f0) := hcc1 0 _ rfl; have hf1 : w1.frozen? ⟨g, x.toNat * 4, none⟩ = false := hfr1 0; have HH1 := a_ (And.intro hoki1 hM1); clear hcl1 hcc1 hfr1 hM1 hoki1 hH1 hRow1 HXS HH1) | ((with_reducible refine gate_store (t := 3) (p := 24) rfl ?_); refine store_event (t := 3) (p := 24) (v := ?vo_w7) (w1 := (w1.setCell ⟨g, x.toNat * 4, none⟩ (.int .i64 (Go.bits .xor .i64 q1.f0 90)))) ?hg ?ho ?hn ?hr ?_; (case ho => rfl); (case hg => rfl); (case hn => rfl); (case hr => first | (go_simp; done) | (go_simp; rfl)); intro w7 hw; have hg : w1.grownBy w7 (some g) := (by rw [hw]; exact HP.2); have P2 := a_ (show Kd.S k57 57 w7 w0.heap.size ok (.slice (some ⟨g, 0, none⟩) xs.length cap) (ys.set x.toNat (⟨Go.bits .xor .i64 q1.f0 90, q1.f1, q1.f2, q1.f3⟩ : S57)) from (by rw [hw]; exact HP.1)); have HB2 := a_ (by rw [hw]; exact below_set HB1.out GB.out : Below w0.heap.size w0 w7); have HK2 := a_ (Kept.of_grown (S := ok) hg HK1.out (fun k_ e_ => .inl (P0.out.choose_spec.1 k_ e_))); clear HP hg hw P0 HB1 HK1))
   go_roundg k1
   case measure => omega
   case rel =>
    obtain ⟨h1, h0, h2, h3, h4⟩ := HI.out
    have hi := of_decide_eq_true cb
    have hw : wrap64 (x + 1) = x + 1 := wsuccP _ (by omega) (by omega)
    refine ⟨_, x + 1, by rw [hw], ⟨by omega, by omega, by omega, by rw [List.length_set]; omega, fun j hj => ?_⟩, P2, HK2, HB2⟩
    rw [List.getElem?_set_ne (by omega), hys, List.getElem?_set_ne (by omega)]
    exact h4 j (by omega)
theorem types_no {W : World} {k t : Nat} {cells : Array Value} {L : List Nat} (hb : W.heap[k]? = some (.cells cells t (0, 0))) (ht : ∀ q, q ∈ L → q ≠ t) (h : ∃ q, q ∈ L ∧ ∃ cells, W.heap[k]? = some (.cells cells q (0, 0))) : False := by
 obtain ⟨q, hq, c2, h2⟩ := h
 rw [hb] at h2
 injection h2 with h2
 injection h2 with _ h3
 exact ht q hq h3.symm

set_option maxHeartbeats 8000000
set_option maxRecDepth 100000
attribute [local go_sem] max2_int min2_int max_two min_two max_three min_three max_four min_four   -- for this text's walks alone
set_option linter.unusedVariables false
set_option linter.unusedSimpArgs false

def sleuthlaw0_SpoilAnswers.l0 : Nat → List (S46) → Int → Option ((List (S46)))
 | 0, _, _ => none
 | k + 1, x0, x2 => if x2 < (x0.length : Int) then (if 0 ≤ x2 then (sleuthlaw0_SpoilAnswers.l0 k (x0.set (x2 : Int).toNat (⟨(rd_T46 x0 x2).f0, Go.bits .xor .i64 ((rd_T46 x0 x2).f1) 90⟩ : S46)) (wrap64 (x2 + 1))) else (none)) else (some x0)
def sleuthlaw0_SpoilAnswers.f (k : Nat) (l0 : List (S46)) : Option ((List (S46))) := sleuthlaw0_SpoilAnswers.l0 k l0 0
theorem sleuthlaw0_SpoilAnswers.calls (k : Nat) (P0_ : Nat → Prop) (u9000_ : Value) (l0 : List (S46)) (r : List (S46)) (w0 w : World) (hB : Below w0.heap.size w0 w) (ho0 : Kd.R k46 46 w w0.heap.size P0_ u9000_ l0) (h : sleuthlaw0_SpoilAnswers.f k l0 = some r) :
 Calls Tryz.prog 26 #[u9000_] w fun e w' => e = .returned (.tuple #[]) ∧ Kd.R k46 46 w' w0.heap.size (fun k_ => (P0_ k_ ∨ w.heap.size ≤ k_)) u9000_ r ∧ Below w0.heap.size w0 w' ∧ Kept w w' (fun k_ => P0_ k_) := by
 have P0 := a_ (show Kd.R k46 46 w w0.heap.size (fun k_ => (P0_ k_ ∨ w.heap.size ≤ k_)) u9000_ l0 from Kd.R_mono ho0 (fun k_ hk => (.inl hk)))
 have HK := a_ (Kept.refl w (fun k_ => P0_ k_))
 have HW0 := a_ hB.size
 have HB := a_ hB
 clear hB
 have H : (sleuthlaw0_SpoilAnswers.l0 k l0 0) = some r := h
 clear h
 have H' := a_ H
 clear H
 go_enter Tryz.func26, Tryz.ntmps26
 go_wp2
 go_loopg [2] k (fun kq v2 w' => ∃ (x1 : List (S46)) (x0 : Int), v2 = .int .i64 x0 ∧ Aside0 (sleuthlaw0_SpoilAnswers.l0 kq x1 x0 = some r) ∧ Aside0 (kq ≤ k) ∧ Aside0 (Kd.R k46 46 w' w0.heap.size (fun k_ => (P0_ k_ ∨ w.heap.size ≤ k_)) u9000_ x1) ∧ Aside0 (Kept w w' (fun k_ => P0_ k_)) ∧ Aside0 (Below w0.heap.size w0 w'))
 case atStart => exact ⟨(l0), (0), hW_, H', ⟨Nat.le_refl _⟩, ⟨hR_ P0.out⟩, ⟨by repeat (first | (with_reducible first | exact HK.out | apply Kept.alloc | apply Kept.drewN | apply Kept.drew) | exact HK.out)⟩, ⟨hC_⟩⟩
 case round =>
  clear H'
  obtain ⟨x1, x0, rfl, HA, HK1, O0, HK, HB⟩ := hrel
  cases gk with
  | zero => exact absurd HA.out (by simp [sleuthlaw0_SpoilAnswers.l0])
  | succ k1 =>
   have H := HA.out
   clear HA
   simp only [sleuthlaw0_SpoilAnswers.l0] at H
   by_cases c2 : x0 < (x1.length : Int)
   case neg =>
    rw [if_neg c2] at H
    have c2b0 : decide (x0 < (x1.length : Int)) = false := decide_eq_false c2
    clear c2
    obtain rfl := Option.some.inj H
    obtain ⟨a0, o1, e1⟩ := Kd.R_slice O0.out
    subst e1
    go_wp2
    first | go_end0 | ((try simp only [Exit.inBlock, Exit.then]); refine bodyPost_ret (results_none rfl _ _ _) rfl ?_)
    exact ⟨hV_, hR_ O0.out, hC_, by repeat (first | (with_reducible first | exact HK.out | apply Kept.alloc | apply Kept.drewN | apply Kept.drew) | exact HK.out)⟩

   rw [if_pos c2] at H
   have c2b0 : decide (x0 < (x1.length : Int)) = true := decide_eq_true c2
   clear c2
   replace H := ifI_ H; obtain ⟨c3, H⟩ := H
   have c3b0 : decide (0 ≤ x0) = true := decide_eq_true c3
   clear c3
   obtain ⟨y0, i0⟩ : ∃ y_ : List (S46), y_ = (x1.set (x0 : Int).toNat (⟨(rd_T46 x1 x0).f0, Go.bits .xor .i64 ((rd_T46 x1 x0).f1) 90⟩ : S46)) := ⟨_, rfl⟩
   replace H : (sleuthlaw0_SpoilAnswers.l0 k1 y0 (wrap64 (x0 + 1))) = some r := by first | (rw [i0]; with_reducible exact H) | (have H2_ := (Option.bind_some _ _).symm.trans H; rw [i0]; with_reducible exact H2_) | (have H2_ := (Option.bind_some _ _).symm.trans H; with_reducible exact H2_) | with_reducible exact H | (rw [i0]; exact H) | exact H
   have Y0 := a_ i0
   clear i0
   have H' := a_ H
   clear H
   obtain ⟨a1, o0, e2⟩ := Kd.R_slice O0.out
   subst e2
   have p421 : 0 ≤ (x0 : Int) := of_decide_eq_true hA_
   have q421 : x0 < (x1.length : Int) := of_decide_eq_true hA_
   obtain ⟨d0, e421, h0, h1⟩ := at_T46 (Kd.R_reads' O0.out).2.2 x0 p421 q421
   cases e421
   replace p421 := eq_true p421
   replace q421 := eq_true q421
   have p4 : 0 ≤ (x0 : Int) := of_decide_eq_true hA_
   have q4 : (x0 : Int) < ((x1.length : Int) : Int) := of_decide_eq_true hA_
   obtain ⟨j0, o2, e0, g0, gl4, cl4, HG4⟩ := Kd.R_form O0.out (by omega)
   (first | cases e0 | (injection e0 with ea_ en_ ec_; (first | subst ea_ | (injection ea_ with ea_; subst ea_)); subst ec_; clear en_))
   have J0 := a_ g0
   have K0 := a_ HG4
   clear g0 gl4 HG4
   have HMgo4 := a_ (show (P0_ j0 ∨ w.heap.size ≤ j0) from (O0.out.1 _ rfl))
   (first | simp only [add_plain] at h0 | skip)
   (first | simp only [add_plain] at h1 | skip)
   obtain ⟨ce4, hcl4, hM4, hcc4, hfr4⟩ := Kd.R_elem O0.out z46 (x0 : Int) p4 q4
   obtain rfl := k46_openM hM4
   have h3 : wr.cell? ⟨j0, (x0 : Int).toNat * 2, none⟩ = some (.int .i64 ((rd_T46 x1 x0).f0)) := hcc4 0 _ rfl
   have h4 : wr.cell? ⟨j0, (x0 : Int).toNat * 2 + 1, none⟩ = some (.int .i64 ((rd_T46 x1 x0).f1)) := hcc4 1 _ rfl
   have hf4_0 : wr.frozen? ⟨j0, (x0 : Int).toNat * 2, none⟩ = false := hfr4 0
   have hf4_1 : wr.frozen? ⟨j0, (x0 : Int).toNat * 2 + 1, none⟩ = false := hfr4 1
   clear hcl4 hcc4 hfr4 hM4
   replace p4 := eq_true p4
   replace q4 := eq_true q4
   have X0 := a_ (show Kd.R k46 46 wr w0.heap.size (fun k_ => (P0_ k_ ∨ w.heap.size ≤ k_)) (.slice (some ⟨j0, 0, none⟩) x1.length o0) x1 from (hR_ O0.out))
   obtain ⟨ce6, hcl6, hM6, hcc6, hfr6⟩ := Kd.R_elem X0.out z46 (x0 : Int) (of_decide_eq_true hA_) (by have h_ : (x0 : Int) < ((x1.length : Int) : Int) := of_decide_eq_true hA_; first | exact h_ | (have e_ := (Kd.R_reads' O0.out).1; omega) | simpa using h_)
   obtain rfl := k46_openM hM6
   have HP6 := Kd.R_seg X0.out (x0 : Int) (of_decide_eq_true hA_) (by have h_ : (x0 : Int) < ((x1.length : Int) : Int) := of_decide_eq_true hA_; first | exact h_ | (have e_ := (Kd.R_reads' O0.out).1; omega) | simpa using h_) (seg := [.int .i64 (Go.bits .xor .i64 ((rd_T46 x1 x0).f1) 90)]) (j := 1) hcl6 hcc6 (show 2 ≤ 2 from by decide) (x' := (⟨(rd_T46 x1 x0).f0, Go.bits .xor .i64 ((rd_T46 x1 x0).f1) 90⟩ : S46)) (k46_mkM _ _ _ (⟨(rd_T46 x1 x0).f0, Go.bits .xor .i64 ((rd_T46 x1 x0).f1) 90⟩ : S46) ) (fun _ hk => hk)
   have h2 := hcc6 1 _ rfl
   (try simp only [show (k46).sz = 2 from rfl, Nat.mul_one, Nat.add_zero] at h2)
   have hf6_1 := hfr6 1
   (try simp only [show (k46).sz = 2 from rfl, Nat.mul_one, Nat.add_zero] at hf6_1)
   clear hcl6 hcc6 hfr6 hM6
   go_wp2_with (first | ((with_reducible refine gate_store (t := 3) (p := 18) rfl ?_); refine store_event (t := 3) (p := 18) (v := ?vo_w7) (w1 := (wr.setCell ⟨j0, (x0 : Int).toNat * 2 + 1, none⟩ (.int .i64 (Go.bits .xor .i64 ((rd_T46 x1 x0).f1) 90)))) ?hg ?ho ?hn ?hr ?_; (case ho => rfl); (case hg => rfl); (case hn => rfl); (case hr => first | (go_simp; done) | (go_simp; rfl)); intro w7 hw; have hg : wr.grownBy w7 (some j0) := (by rw [hw]; exact HP6.2); have hp_ : Kd.R k46 46 w7 w0.heap.size (fun k_ => (P0_ k_ ∨ w.heap.size ≤ k_)) (.slice (some ⟨j0, 0, none⟩) x1.length o0) y0 := (by rw [hw, Y0.out]; exact HP6.1); clear HP6; replace HB := a_ ((by rw [hw]; exact below_set (HB.out) J0.out : Below w0.heap.size w0 w7)); replace HK := a_ (Kept.of_grown (S := (fun k_ => P0_ k_)) hg (by repeat (first | (with_reducible first | exact HK.out | apply Kept.alloc | apply Kept.drewN | apply Kept.drew) | exact HK.out)) (fun k_ e_ => (O0.out.1 k_ e_))); replace O0 := a_ (hp_); clear hg hw hp_))
   go_roundg k1
   case measure => have := HK1.out; omega
   case rel => exact ⟨(y0), (wrap64 (x0 + 1)), hW_, H', ⟨by have := HK1.out; omega⟩, ⟨hR_ O0.out⟩, ⟨by repeat (first | (with_reducible first | exact HK.out | apply Kept.alloc | apply Kept.drewN | apply Kept.drew) | exact HK.out)⟩, ⟨hC_⟩⟩
set_option maxHeartbeats 8000000
set_option maxRecDepth 100000
attribute [local go_sem] max2_int min2_int max_two min_two max_three min_three max_four min_four   -- for this text's walks alone
set_option linter.unusedVariables false
set_option linter.unusedSimpArgs false

def sp_ok (l0 : List S57) (l2 : List S46) : Bool := sn_ok l0 && decide (l2.length ≤ 9223372036854775806)
def sleuthlaw0_SpoilSession.f (k : Nat) (l0 : List S57) (a1 : Int) (l2 : List S46) : Option Unit := if sp_ok l0 l2 = true then some () else none
theorem spa_l0 : ∀ (n i : Nat) (l : List S46), i + n = l.length → l.length ≤ 9223372036854775806 → ∃ k r, sleuthlaw0_SpoilAnswers.l0 k l (i : Int) = some r
 | 0, i, l, h, _ => ⟨1, l, by rw [sleuthlaw0_SpoilAnswers.l0, if_neg (by omega)]⟩
 | n + 1, i, l, h, hl => by
  obtain ⟨k, r, h1⟩ := spa_l0 n (i + 1) (l.set i (⟨(rd_T46 l (i : Int)).f0, Go.bits .xor .i64 ((rd_T46 l (i : Int)).f1) 90⟩ : S46)) (by rw [List.length_set]; omega) (by rw [List.length_set]; exact hl)
  refine ⟨k + 1, r, ?_⟩
  have e1 : ((i + 1 : Nat) : Int) = (i : Int) + 1 := by omega
  rw [e1] at h1
  rw [sleuthlaw0_SpoilAnswers.l0, if_pos (by omega), if_pos (by omega), Int.toNat_natCast, wsuccP _ (by omega) (by omega)]
  exact h1
theorem sleuthlaw0_SpoilSession.callsS (k : Nat) (ok0 ok2 : Nat → Prop) (v0 v2 : Value) (l0 : List S57) (a1 : Int) (l2 : List S46) (w0 w : World) (hB : Below w0.heap.size w0 w) (h0 : Kd.S k57 57 w w0.heap.size ok0 v0 l0) (h2 : Kd.R k46 46 w w0.heap.size ok2 v2 l2) (h : sleuthlaw0_SpoilSession.f k l0 a1 l2 = some ()) :
 Calls Tryz.prog 11 #[.agg #[v0, .int .i64 a1, v2]] w fun e w' => e = .returned (.tuple #[]) ∧ Below w0.heap.size w0 w' ∧ Kept w w' (fun k_ => ok0 k_ ∨ some k_ = v2.ownBlock) := by
 have hu := Tryz.underlying25
 have hok : sp_ok l0 l2 = true := by
  unfold sleuthlaw0_SpoilSession.f at h
  by_cases c : sp_ok l0 l2 = true
  case pos =>
   exact c
  rw [if_neg c] at h; cases h
 clear h
 have hokS : (l0.length ≤ 9223372036854775806 ∧ l2.length ≤ 9223372036854775806 ∧ ∀ x ∈ l0, x.f2.length ≤ 9223372036854775806 ∧ ∀ s ∈ x.f2, s.size ≤ 9223372036854775806) := by
  unfold sp_ok at hok
  rw [Bool.and_eq_true] at hok
  exact ⟨(sn_ok_spec hok.1).1, of_decide_eq_true hok.2, (sn_ok_spec hok.1).2⟩
 obtain ⟨ka, ra, hta⟩ := spa_l0 l2.length 0 l2 (by omega) hokS.2.1
 obtain ⟨A0, c0, rfl⟩ := Kd.S_slice h0
 obtain ⟨A2, c2, rfl⟩ := Kd.R_slice h2
 have P1 := a_ h0
 have P0 := a_ (Kd.R_tight rfl h2)
 have HB := a_ hB
 have HOK := a_ hokS
 have HTA := a_ (show sleuthlaw0_SpoilAnswers.f ka l2 = some ra from hta)
 have HK := a_ (Kept.refl w (fun k_ => ok0 k_ ∨ some k_ = (Value.slice A2 l2.length c2).ownBlock))
 clear hB h0 h2 hok hokS hta
 go_enter Tryz.func11, Tryz.ntmps11
 go_wp2_with (first | ((with_reducible refine gate_dst (N := 1) rfl ?_); refine boxE_ 1 #[.slice A0 l0.length c0, .int .i64 a1, .slice A2 l2.length c2] 25 ?_; intro gb hg w1 hbox hb; replace P1 := a_ (Kd.S_below P1.out hb); replace P0 := a_ (Kd.R_below P0.out hb); replace HB := a_ (below_then HB.out HB.out.size hb); replace HK := a_ (HK.out.below hb); have BK := a_ hbox; clear hb hbox hg; obtain ⟨hcz_0, hcz_1, hcz_2, hfz_0, hfz_1, hfz_2⟩ := bx3_ BK.out) | ((with_reducible refine gate_callee (f := 25) rfl ?_); refine goesL_ (some 4) rfl rfl Tryz.func25 (by kernel_rfl) rfl #[.slice A0 l0.length c0] rfl hL_ ?_; (with_reducible refine (sleuthlaw0_SpoilNodes.callsS _ _ l0 w0 _ HB.out (Kd.S_bound P1.out) HOK.out.1 HOK.out.2.2).mono ?_); rintro e w2 ⟨rfl, hb2, hk2⟩; refine ⟨_, rfl, ?_⟩; replace P0 := a_ (Kd.R_kept P0.out hk2 (fun k_ h1_ h2_ => (Kd.R_typed P0.out k_ h1_.symm).elim (fun _ h3_ => types_no h3_ (by decide) h2_.2.2.2))); replace BK := a_ (blk_kept BK.out hk2 (fun h2_ => types_no BK.out (by decide) h2_.2.2.2)); replace HB := a_ hb2; replace HK := a_ (HK.out.then_ hk2 (fun k_ h_ => .inl (.inl h_.1))); clear P1; clear hb2 hk2; obtain ⟨z0, z1, z2, f0, f1, f3⟩ := bx3_ BK.out) | ((with_reducible refine gate_callee (f := 26) rfl ?_); refine goesL_ (some 7) rfl rfl Tryz.func26 (by kernel_rfl) rfl #[.slice A2 l2.length c2] rfl hL_ ?_; (with_reducible refine (sleuthlaw0_SpoilAnswers.calls ka _ _ l2 ra w0 _ HB.out P0.out HTA.out).mono ?_); rintro e w3 ⟨rfl, hr3, hb3, hk3⟩; refine ⟨_, rfl, ?_⟩; replace HB := a_ hb3; replace HK := a_ (HK.out.then_ hk3 (fun k_ h_ => .inl (.inr h_))); clear P0 BK; clear hr3 hb3 hk3))
 first | go_end0 | ((try simp only [Exit.inBlock, Exit.then]); refine bodyPost_ret (results_none rfl _ _ _) rfl ?_)
 exact ⟨rfl, HB.out, HK.out⟩

end Go.Proofs.YtijamgfpgdiigaaGreatDoor.G
end
section
namespace Go.Proofs.YtijamgfpgdiigaaGreatDoor.G
open Go.RowKit Go.Proofs.YtijamgfpgdiigaaGreatDoorW.PrintWords Go.Proofs.YtijamgfpgdiigaaGreatDoorW.PrintLast Go.Proofs.YtijamgfpgdiigaaGreatDoorW.PrintMore
set_option linter.unusedVariables false
set_option linter.unusedSimpArgs false
theorem copySession_ev (ns : List Nd) (hok : okN ns) (w : Int) (zs : List An) (hz : zs.length * 16 ≤ 140737488351232) : Ev (fun k => sleuthlaw0_CopySession.f k ns w zs) (ns, w, zs) := by
  unfold sleuthlaw0_CopySession.f
  simp only [Option.bind_some, List.nil_append]
  have g : ([] : List An).length + zs.length < 8796093022208 := by rw [List.length_nil]; omega
  simp only [if_pos g]
  exact Ev.bind (copy_ev ns hok) (Ev.now _)
theorem spOK {ns : List Nd} {zs : List An} (h : fineN ns) (hz : zs.length ≤ 9223372036854775806) : sp_ok ns zs = true := by
  unfold sp_ok sn_ok
  rw [decide_eq_true (show ns.length ≤ 9223372036854775806 by have := h.1; omega), decide_eq_true hz, Bool.true_and, Bool.and_true]
  refine List.all_eq_true.2 fun x hx => ?_
  have h1 := (h.2 x hx).2.2.1
  rw [decide_eq_true (show x.f2.length ≤ 9223372036854775806 by have := h1.1; omega), Bool.true_and]
  exact List.all_eq_true.2 fun s hs => decide_eq_true (by have := h1.2 s hs; omega)
theorem fineN_nil : fineN [] := ⟨by decide, fun x hx => by cases hx⟩
theorem spoilS_ev {ns : List Nd} {w : Int} {zs : List An} (h : fineN ns) (hz : zs.length ≤ 9223372036854775806) : Ev (fun k => sleuthlaw0_SpoilSession.f k ns w zs) () := by
  unfold sleuthlaw0_SpoilSession.f
  rw [if_pos (spOK h hz)]
  exact Ev.now _
end Go.Proofs.YtijamgfpgdiigaaGreatDoor.G
end
section
namespace Go.Proofs.YtijamgfpgdiigaaGreatDoor.G
open Go.RowKit Go.Proofs.YtijamgfpgdiigaaGreatDoorW.PrintWords Go.Proofs.YtijamgfpgdiigaaGreatDoorW.PrintLast Go.Proofs.YtijamgfpgdiigaaGreatDoorW.PrintMore
set_option maxHeartbeats 8000000
set_option maxRecDepth 100000
attribute [local go_sem] max2_int min2_int max_two min_two max_three min_three max_four min_four   -- for this text's walks alone
set_option linter.unusedVariables false
set_option linter.unusedSimpArgs false

def sleuthlaw21_Sessions.f (k : Nat) (l0s : List S57) (ns : Int) (l2s : List S46) : Option Bool :=
 (sleuthlaw0_CopySession.f k l0s ns l2s).bind fun x => (session_New.f k x.1 x.2.1).bind fun a => (sleuthref12_NewSession.f k l0s ns).bind fun b =>
 (sleuthlaw0_SameSession.f k a.1 a.2.1 a.2.2.1 b.1 b.2.1 b.2.2.1).bind fun t1 => if t1 = true then (sleuthlaw0_Num.f a.2.2.2).bind fun t2 => if t2 = b.2.2.2 then (session_May.f k x.1 x.2.1 x.2.2).bind fun t3 => (sleuthref12_SessionMay.f k l0s ns l2s).bind fun t4 => if t3 = t4 then
 (sleuthlaw0_SpoilSession.f k a.1 a.2.1 a.2.2.1).bind fun _ => (sleuthlaw0_SameSession.f k x.1 x.2.1 x.2.2 l0s ns l2s).bind fun t5 => if t5 = true then sleuthlaw21_awake.f k else none else none else none else none
def sleuthlaw21_Sessions.T4 : Bool × List (List Nat × List Nat) := (true, [([], []), ([], []), ([0, 1], [0, 1]), ([2], [2]), ([3, 2], [3]), ([4], [4]), ([5, 4, 4], [4, 5]), ([4], [4]), ([6, 7, 4], [4, 6, 7]), ([4, 8], [4, 8]), ([9, 6], [9]), ([10], [10]), ([11, 10, 10], [10, 11]), ([10], [10]), ([13, 12, 10], [10, 13]), ([12, 14, 10], [10, 12, 14]), ([10, 15], [10, 15])])
def sleuthlaw21_Sessions.B4 : List Nat := [0, 0, 3, 7, 15, 31, 63, 31, 255, 511, 1023, 2047, 4095, 2047, 16383, 32767, 65535]
theorem sleuthlaw21_Sessions.tab4 : rtab .any (opsOf Tryz.f3 4) = sleuthlaw21_Sessions.T4 := by kernel_rfl
theorem sleuthlaw21_Sessions.bits4 : waitsOk sleuthlaw21_Sessions.T4.2 sleuthlaw21_Sessions.B4 = true := by kernel_rfl
theorem sleuthlaw21_Sessions.calls (k : Nat) (A0s : Option Addr) (c0s : Nat) (l0s : List S57) (ns : Int) (A2s : Option Addr) (c2s : Nat) (l2s : List S46) (r : Bool) (w : World) (hr0 : Kd.C k57 w A0s l0s.length l0s) (hc0 : l0s.length ≤ c0s) (hr2 : Kd.C k46 w A2s l2s.length l2s) (hc2 : l2s.length ≤ c2s) (h : sleuthlaw21_Sessions.f k l0s ns l2s = some r) (hG : GOK w) :
 Calls Tryz.prog 3 #[.agg #[.slice A0s l0s.length c0s, .int .i64 ns, .slice A2s l2s.length c2s]] w fun e w' => e = .returned (.bool r) ∧ Below w.heap.size w w' := by
 have hu := Tryz.underlying25
 have HRs0 := a_ hr0
 have HCs0 := a_ hc0
 have HRs2 := a_ hr2
 have HCs2 := a_ hc2
 clear hr0 hc0 hr2 hc2
 have HB := a_ (Below.refl w.heap.size w)
 unfold sleuthlaw21_Sessions.f at h
 obtain ⟨⟨l0x, nx, l2x⟩, B1_, h⟩ := Option.bind_eq_some_iff.mp h
 (try dsimp only at h)
 have B1 := a_ B1_
 clear B1_
 obtain ⟨⟨l0a, na, l2a, ea⟩, B2_, h⟩ := Option.bind_eq_some_iff.mp h
 (try dsimp only at h)
 have B2 := a_ B2_
 clear B2_
 obtain ⟨⟨l0b, nb, l2b, eb⟩, B3_, h⟩ := Option.bind_eq_some_iff.mp h
 (try dsimp only at h)
 have B3 := a_ B3_
 clear B3_
 obtain ⟨t1, B6_, h⟩ := Option.bind_eq_some_iff.mp h
 (try dsimp only at h)
 have B6 := a_ B6_
 clear B6_
 by_cases c1 : t1 = true
 case neg => rw [if_neg c1] at h; cases h
 rw [if_pos c1] at h
 obtain ⟨t2, B7_, h⟩ := Option.bind_eq_some_iff.mp h
 (try dsimp only at h)
 have B7 := a_ B7_
 clear B7_
 by_cases c2 : t2 = eb
 case neg => rw [if_neg c2] at h; cases h
 rw [if_pos c2] at h
 obtain ⟨t3, B8_, h⟩ := Option.bind_eq_some_iff.mp h
 (try dsimp only at h)
 have B8 := a_ B8_
 clear B8_
 obtain ⟨t4, B9_, h⟩ := Option.bind_eq_some_iff.mp h
 (try dsimp only at h)
 have B9 := a_ B9_
 clear B9_
 by_cases c4 : t3 = t4
 case neg => rw [if_neg c4] at h; cases h
 rw [if_pos c4] at h
 obtain ⟨_, B10_, h⟩ := Option.bind_eq_some_iff.mp h
 (try dsimp only at h)
 have B10 := a_ B10_
 clear B10_
 obtain ⟨t5, B12_, h⟩ := Option.bind_eq_some_iff.mp h
 (try dsimp only at h)
 have B12 := a_ B12_
 clear B12_
 by_cases c5 : t5 = true
 case neg => rw [if_neg c5] at h; cases h
 rw [if_pos c5] at h
 subst c1 c5
 have B13 := a_ h
 clear h
 have c2a : (t2 == eb) = true := beq_iff_eq.mpr c2
 have c2b : (t2 != eb) = false := bne_eq_false_iff_eq.mpr c2
 have c4a : (t3 == t4) = true := beq_iff_eq.mpr c4
 have c4b : (t3 != t4) = false := bne_eq_false_iff_eq.mpr c4
 clear c2 c4
 go_enter Tryz.func3, Tryz.ntmps3
 go_upto_region 4 with (first
  | ((with_reducible refine gate_dst (N := 1) rfl ?_); refine boxE_ 1 #[.slice A0s l0s.length c0s, .int .i64 ns, .slice A2s l2s.length c2s] 25 ?_; intro g1 hg wb1 hbox hb; have E0 := a_ (gE_ hg : w.heap.size ≤ g1); have B0 := a_ hbox; (try clear z0 f0 z1 f1 z2 f2); obtain ⟨z0, z1, z2, f0, f1, f2⟩ := bx3_ B0.out; have hs_ := below_step hC_ hb; replace HB := a_ hs_; clear hs_ hb hbox hg)
  | ((with_reducible refine gate_callee (f := 4) rfl ?_); refine goesL_ _ rfl rfl Tryz.func4 (by kernel_rfl) rfl #[.agg #[.slice A0s l0s.length c0s, .int .i64 ns, .slice A2s l2s.length c2s]] rfl hL_ ?_; (with_reducible refine (sleuthlaw0_CopySession.calls k _ _ l0s ns _ _ l2s l0x nx l2x _ ?s1 ?s2 ?s3 ?s4 B1.out).mono ?_); (case s1 => exact (Kd.C_below HRs0.out hC_)); (case s2 => exact HCs0.out); (case s3 => exact (Kd.C_below HRs2.out hC_)); (case s4 => exact HCs2.out); rintro e w1 ⟨v0_, v2_, rfl, hs0, hr1, hb⟩; refine ⟨_, rfl, ?_⟩; have hs_ := below_step hC_ hb; obtain ⟨A0x, c0x, rfl⟩ := Kd.S_slice hs0; obtain ⟨A2x, c2x, rfl⟩ := Kd.R_slice hr1; have HRx0 := a_ (Kd.S_reads' hs0).2.2; have HCx0 := a_ (Kd.S_reads' hs0).2.1; have HRx2 := a_ (Kd.R_reads' hr1).2.2; have HCx2 := a_ (Kd.R_reads' hr1).2.1; replace HRs0 := a_ (Kd.C_below HRs0.out hs_); replace HRs2 := a_ (Kd.C_below HRs2.out hs_); replace B0 := a_ (blk_below (g := g1) (o := .cells #[.slice A0s l0s.length c0s, .int .i64 ns, .slice A2s l2s.length c2s] 25 (0, 0)) (by (with_reducible repeat (first | refine blk_drewN ?_ _ | refine blk_drew ?_ | refine blk_alloc ?_ _)); exact (hK_ B0.out)) hb); have X0 := a_ hs_; replace hG := GOK.below hG hs_; have HX := a_ (Below.refl w1.heap.size w1); replace HB := a_ (Below.refl w1.heap.size w1); clear hs_ hb hs0 hr1; (try clear z0 f0 z1 f1 z2 f2); obtain ⟨z0, z1, z2, f0, f1, f2⟩ := bx3_ B0.out)
  | ((with_reducible refine gate_dst (N := 3) rfl ?_); refine boxE_ 3 #[.slice none 0 0, .int .i64 0, .slice none 0 0] 25 ?_; intro g2 hg wb3 hbox hb; have E1 := a_ (gE_ hg : w1.heap.size ≤ g2); have m0 := (bL_ B0.out hg : g1 ≠ g2); have m1 := (bG_ B0.out hg : g2 ≠ g1); have B4 := a_ hbox; (try clear z0 f0 z1 f1 z2 f2); obtain ⟨z0, z1, z2, f0, f1, f2⟩ := bx3_ (bB_ B0.out hb); (try clear z3 f3 z4 f4 z5 f5); obtain ⟨z3, z4, z5, f3, f4, f5⟩ := bx3_ B4.out; have hs_ := below_step hC_ hb; replace HB := a_ hs_; clear hs_ hb hbox hg)
  | ((with_reducible refine gate_callee (f := 5) rfl ?_); refine goesL_ _ rfl rfl Tryz.func5 (by kernel_rfl) rfl #[.slice A0x l0x.length c0x, .int .i64 nx] rfl hL_ ?_; (with_reducible refine (session_New.callsS k _ _ l0x nx l0a na l2a ea _ ?s1 ?s2 B2.out (GOK.below hG (below_step HX.out hC_))).mono ?_); (case s1 => exact (Kd.C_below HRx0.out (below_step HX.out hC_))); (case s2 => exact HCx0.out); rintro e wc2 ⟨v0_, v2_, rfl, hs0, hr1, hb⟩; refine ⟨_, rfl, ?_⟩; have hs_ := below_step hC_ hb; obtain ⟨A0a, c0a, rfl⟩ := Kd.S_slice hs0; obtain ⟨A2a, c2a, rfl⟩ := Kd.R_slice hr1; have HOa0 := a_ (Kd.S_lower hs0 (below_size (below_step HX.out hC_))); have HOa2 := a_ (Kd.R_lower hr1 (below_size (below_step HX.out hC_))); replace B0 := a_ (blk_below B0.out hs_); replace B4 := a_ (blk_below (g := g2) (o := .cells #[.slice A0x l0x.length c0x, .int .i64 nx, .slice A2x l2x.length c2x] 25 (0, 0)) (by (with_reducible repeat (first | refine blk_drewN ?_ _ | refine blk_drew ?_ | refine blk_alloc ?_ _)); exact (bP_ (bP_ (bP_ (hK_ B4.out))))) hb); replace HX := a_ (below_step HX.out hs_); replace HB := a_ (Below.refl wc2.heap.size wc2); clear hs_ hb hs0 hr1; (try clear z0 f0 z1 f1 z2 f2); obtain ⟨z0, z1, z2, f0, f1, f2⟩ := bx3_ B0.out; (try clear z3 f3 z4 f4 z5 f5); obtain ⟨z3, z4, z5, f3, f4, f5⟩ := bx3_ B4.out)
  | ((with_reducible refine gate_dst (N := 4) rfl ?_); refine boxE_ 4 #[.slice none 0 0, .int .i64 0, .slice none 0 0] 25 ?_; intro g3 hg wb4 hbox hb; have E2 := a_ (gE_ hg : wc2.heap.size ≤ g3); have m2 := (bL_ B0.out hg : g1 ≠ g3); have m3 := (bG_ B0.out hg : g3 ≠ g1); have m4 := (bL_ B4.out hg : g2 ≠ g3); have m5 := (bG_ B4.out hg : g3 ≠ g2); have B5 := a_ hbox; (try clear z0 f0 z1 f1 z2 f2); obtain ⟨z0, z1, z2, f0, f1, f2⟩ := bx3_ (bB_ B0.out hb); (try clear z3 f3 z4 f4 z5 f5); obtain ⟨z3, z4, z5, f3, f4, f5⟩ := bx3_ (bB_ B4.out hb); (try clear z6 f6 z7 f7 z8 f8); obtain ⟨z6, z7, z8, f6, f7, f8⟩ := bx3_ B5.out; have hs_ := below_step hC_ hb; replace HB := a_ hs_; clear hs_ hb hbox hg)
  | ((with_reducible refine gate_callee (f := 6) rfl ?_); refine goesL_ _ rfl rfl Tryz.func6 (by kernel_rfl) rfl #[.slice A0s l0s.length c0s, .int .i64 ns] rfl hL_ ?_; (with_reducible refine (sleuthref12_NewSession.calls k _ _ l0s ns l0b nb l2b eb _ ?s1 ?s2 B3.out).mono ?_); (case s1 => exact (Kd.C_below HRs0.out (below_step HX.out hC_))); (case s2 => exact HCs0.out); rintro e wc3 ⟨v0_, v2_, rfl, hs0, hr1, hb⟩; refine ⟨_, rfl, ?_⟩; have hs_ := below_step hC_ hb; obtain ⟨A0b, c0b, rfl⟩ := Kd.S_slice hs0; obtain ⟨A2b, c2b, rfl⟩ := Kd.R_slice hr1; have HOb0 := a_ (Kd.S_reads' hs0).2.2; have HCb0 := a_ (Kd.S_reads' hs0).2.1; have HOb2 := a_ (Kd.R_reads' hr1).2.2; have HCb2 := a_ (Kd.R_reads' hr1).2.1; replace HOa0 := a_ (Kd.S_below HOa0.out hs_); replace HOa2 := a_ (Kd.R_below HOa2.out hs_); replace B0 := a_ (blk_below B0.out hs_); replace B4 := a_ (blk_below B4.out hs_); replace B5 := a_ (blk_below (g := g3) (o := .cells #[.slice A0a l0a.length c0a, .int .i64 na, .slice A2a l2a.length c2a] 25 (0, 0)) (by (with_reducible repeat (first | refine blk_drewN ?_ _ | refine blk_drew ?_ | refine blk_alloc ?_ _)); exact (bP_ (bP_ (bP_ (hK_ B5.out))))) hb); replace HX := a_ (below_step HX.out hs_); replace HB := a_ (Below.refl wc3.heap.size wc3); clear hs_ hb hs0 hr1; (try clear z0 f0 z1 f1 z2 f2); obtain ⟨z0, z1, z2, f0, f1, f2⟩ := bx3_ B0.out; (try clear z3 f3 z4 f4 z5 f5); obtain ⟨z3, z4, z5, f3, f4, f5⟩ := bx3_ B4.out; (try clear z6 f6 z7 f7 z8 f8); obtain ⟨z6, z7, z8, f6, f7, f8⟩ := bx3_ B5.out)
  | ((with_reducible refine gate_dst (N := 6) rfl ?_); refine boxE_ 6 #[.slice none 0 0, .int .i64 0, .slice none 0 0] 25 ?_; intro g0 hg wb6 hbox hb; have E3 := a_ (gE_ hg : wc3.heap.size ≤ g0); have m6 := (bL_ B0.out hg : g1 ≠ g0); have m7 := (bG_ B0.out hg : g0 ≠ g1); have m8 := (bL_ B4.out hg : g2 ≠ g0); have m9 := (bG_ B4.out hg : g0 ≠ g2); have m10 := (bL_ B5.out hg : g3 ≠ g0); have m11 := (bG_ B5.out hg : g0 ≠ g3); have BK6 := a_ hbox; (try clear z0 f0 z1 f1 z2 f2); obtain ⟨z0, z1, z2, f0, f1, f2⟩ := bx3_ (bB_ B0.out hb); (try clear z3 f3 z4 f4 z5 f5); obtain ⟨z3, z4, z5, f3, f4, f5⟩ := bx3_ (bB_ B4.out hb); (try clear z6 f6 z7 f7 z8 f8); obtain ⟨z6, z7, z8, f6, f7, f8⟩ := bx3_ (bB_ B5.out hb); (try clear z9 f9 z10 f10 z11 f11); obtain ⟨z9, z10, z11, f9, f10, f11⟩ := bx3_ BK6.out; have hs_ := below_step hC_ hb; replace HB := a_ hs_; clear hs_ hb hbox hg))
 have hs_ : Below wc3.heap.size wc3 (((wb6.setCell ⟨g0, 0, none⟩ (.slice A0b l0b.length c0b)).setCell ⟨g0, 1, none⟩ (.int .i64 nb)).setCell ⟨g0, 2, none⟩ (.slice A2b l2b.length c2b)) := hC_
 replace HOa0 := a_ (Kd.S_below HOa0.out hs_)
 replace HOa2 := a_ (Kd.R_below HOa2.out hs_)
 replace HOb0 := a_ (Kd.C_below HOb0.out hs_)
 replace HOb2 := a_ (Kd.C_below HOb2.out hs_)
 replace B0 := a_ (blk_below B0.out hs_)
 replace B4 := a_ (blk_below B4.out hs_)
 replace B5 := a_ (blk_below B5.out hs_)
 replace BK6 := a_ (show (((wb6.setCell ⟨g0, 0, none⟩ (.slice A0b l0b.length c0b)).setCell ⟨g0, 1, none⟩ (.int .i64 nb)).setCell ⟨g0, 2, none⟩ (.slice A2b l2b.length c2b)).heap[g0]? = some (.cells #[.slice A0b l0b.length c0b, .int .i64 nb, .slice A2b l2b.length c2b] 25 (0, 0)) from (bP_ (bP_ (bP_ (hK_ BK6.out)))))
 replace HX := a_ (below_step HX.out hs_)
 clear hs_ HB
 have HB := a_ (Below.refl (((wb6.setCell ⟨g0, 0, none⟩ (.slice A0b l0b.length c0b)).setCell ⟨g0, 1, none⟩ (.int .i64 nb)).setCell ⟨g0, 2, none⟩ (.slice A2b l2b.length c2b)).heap.size (((wb6.setCell ⟨g0, 0, none⟩ (.slice A0b l0b.length c0b)).setCell ⟨g0, 1, none⟩ (.int .i64 nb)).setCell ⟨g0, 2, none⟩ (.slice A2b l2b.length c2b)))
 generalize (((wb6.setCell ⟨g0, 0, none⟩ (.slice A0b l0b.length c0b)).setCell ⟨g0, 1, none⟩ (.int .i64 nb)).setCell ⟨g0, 2, none⟩ (.slice A2b l2b.length c2b)) = wr4 at HOa0 HOa2 HOb0 HOb2 B0 B4 B5 BK6 HX HB ⊢
 refine start_ (n := 17) (S := fun w' => w'.cell? ⟨g1, 0, none⟩ = some (.slice A0s l0s.length c0s) ∧ w'.cell? ⟨g1, 1, none⟩ = some (.int .i64 ns) ∧ w'.cell? ⟨g1, 2, none⟩ = some (.slice A2s l2s.length c2s) ∧ w'.cell? ⟨g2, 0, none⟩ = some (.slice A0x l0x.length c0x) ∧ w'.cell? ⟨g2, 1, none⟩ = some (.int .i64 nx) ∧ w'.cell? ⟨g2, 2, none⟩ = some (.slice A2x l2x.length c2x) ∧ w'.cell? ⟨g3, 0, none⟩ = some (.slice A0a l0a.length c0a) ∧ w'.cell? ⟨g3, 1, none⟩ = some (.int .i64 na) ∧ w'.cell? ⟨g3, 2, none⟩ = some (.slice A2a l2a.length c2a) ∧ w'.cell? ⟨g0, 0, none⟩ = some (.slice A0b l0b.length c0b) ∧ w'.cell? ⟨g0, 1, none⟩ = some (.int .i64 nb) ∧ w'.cell? ⟨g0, 2, none⟩ = some (.slice A2b l2b.length c2b)) (ds := []) #[false, false, false, false, false, false, false, false, false, false, false, false, false, false, false, false, false] (by kernel_rfl) rfl rfl ⟨(blk_cell B0.out 0).trans rfl, (blk_cell B0.out 1).trans rfl, (blk_cell B0.out 2).trans rfl, (blk_cell B4.out 0).trans rfl, (blk_cell B4.out 1).trans rfl, (blk_cell B4.out 2).trans rfl, (blk_cell B5.out 0).trans rfl, (blk_cell B5.out 1).trans rfl, (blk_cell B5.out 2).trans rfl, (blk_cell BK6.out 0).trans rfl, (blk_cell BK6.out 1).trans rfl, (blk_cell BK6.out 2).trans rfl⟩ (fun hHeld => ?_)
 refine with_tabW sleuthlaw21_Sessions.tab4 sleuthlaw21_Sessions.bits4 (fun HT_ HW_ => ?_)
 refine tB_ 0 26 HT_.out HW_.out hHeld ?_
 refine tB_ 1 27 HT_.out HW_.out hHeld ?_
 refine one_ (i := 2) (N := some 28) #[true, true, true, false, false, false, false, false, false, false, false, false, false, false, false, false, false] rfl rfl (one_of HT_.out (by kernel_rfl)) (by decide) (fun K hK => ?_)
 refine goes_ Tryz.func7 (by kernel_rfl) rfl #[.agg #[.slice A0a l0a.length c0a, .int .i64 na, .slice A2a l2a.length c2a], .agg #[.slice A0b l0b.length c0b, .int .i64 nb, .slice A2b l2b.length c2b]] (by rfl) rfl rfl hL_ ?_
 (with_reducible refine (sleuthlaw0_SameSession.calls k _ _ l0a na _ _ l2a _ _ l0b nb _ _ l2b true _ ?s1 ?s2 ?s3 ?s4 ?s5 ?s6 ?s7 ?s8 B6.out).mono ?_)
 (case s1 => exact (Kd.S_reads' (Kd.S_below HOa0.out hC_)).2.2)
 (case s2 => exact (Kd.S_reads' HOa0.out).2.1)
 (case s3 => exact (Kd.R_reads' (Kd.R_below HOa2.out hC_)).2.2)
 (case s4 => exact (Kd.R_reads' HOa2.out).2.1)
 (case s5 => exact (Kd.C_below HOb0.out hC_))
 (case s6 => exact HCb0.out)
 (case s7 => exact (Kd.C_below HOb2.out hC_))
 (case s8 => exact HCb2.out)
 rintro e wc5 ⟨rfl, hb⟩
 refine ⟨_, rfl, ?_⟩
 have hs_ := below_step hC_ hb
 replace HOa0 := a_ (Kd.S_below HOa0.out hs_)
 replace HOa2 := a_ (Kd.R_below HOa2.out hs_)
 replace HOb0 := a_ (Kd.C_below HOb0.out hs_)
 replace HOb2 := a_ (Kd.C_below HOb2.out hs_)
 replace B0 := a_ (blk_below B0.out hs_)
 replace B4 := a_ (blk_below B4.out hs_)
 replace B5 := a_ (blk_below B5.out hs_)
 replace BK6 := a_ (blk_below BK6.out hs_)
 replace HX := a_ (below_step HX.out hs_)
 replace HB := a_ (Below.refl wc5.heap.size wc5)
 clear hs_ hb
 refine hK.out _ _ ⟨(blk_cell B0.out 0).trans rfl, (blk_cell B0.out 1).trans rfl, (blk_cell B0.out 2).trans rfl, (blk_cell B4.out 0).trans rfl, (blk_cell B4.out 1).trans rfl, (blk_cell B4.out 2).trans rfl, (blk_cell B5.out 0).trans rfl, (blk_cell B5.out 1).trans rfl, (blk_cell B5.out 2).trans rfl, (blk_cell BK6.out 0).trans rfl, (blk_cell BK6.out 1).trans rfl, (blk_cell BK6.out 2).trans rfl⟩ (fun hHeld => ?_)
 clear hK K
 refine norm_ (a' := ?_) ?_ ?_
 rotate_left
 · show Act.put _ (some 28) _ = _
   simp only [Act.put, List.setIfInBounds_toArray, List.set_cons_zero, List.set_cons_succ, i64_w, i32_w]
   rfl
 refine pB_ 3 29 HT_.out ?_
 refine pB_ 4 30 HT_.out ?_
 refine pB_ 5 31 HT_.out ?_
 refine pB_ 7 33 HT_.out ?_
 refine one_ (i := 6) (N := some 32) #[true, true, true, true, true, true, true, true, false, false, false, false, false, false, false, false, false] rfl rfl (one_of HT_.out (by kernel_rfl)) (by decide) (fun K hK => ?_)
 refine goes_ Tryz.func8 (by kernel_rfl) rfl #[.int .i64 ea] (by rfl) rfl rfl hL_ ?_
 with_reducible refine (sleuthlaw0_Num.calls ea t2 _ B7.out).mono ?_
 rintro e w' ⟨rfl, ⟨nq_, rfl⟩⟩
 refine ⟨_, rfl, ?_⟩
 refine hK.out _ _ ⟨(blk_cell B0.out 0).trans rfl, (blk_cell B0.out 1).trans rfl, (blk_cell B0.out 2).trans rfl, (blk_cell B4.out 0).trans rfl, (blk_cell B4.out 1).trans rfl, (blk_cell B4.out 2).trans rfl, (blk_cell B5.out 0).trans rfl, (blk_cell B5.out 1).trans rfl, (blk_cell B5.out 2).trans rfl, (blk_cell BK6.out 0).trans rfl, (blk_cell BK6.out 1).trans rfl, (blk_cell BK6.out 2).trans rfl⟩ (fun hHeld => ?_)
 clear hK K
 refine norm_ (a' := ?_) ?_ ?_
 rotate_left
 · show Act.put _ (some 32) _ = _
   simp only [Act.put, List.setIfInBounds_toArray, List.set_cons_zero, List.set_cons_succ, i64_w, i32_w]
   rfl
 refine pB_ 8 34 HT_.out ?_
 refine pB_ 9 35 HT_.out ?_
 refine pB_ 10 36 HT_.out ?_
 refine tB_ 11 37 HT_.out HW_.out hHeld ?_
 refine tB_ 13 39 HT_.out HW_.out hHeld ?_
 refine one_ (i := 12) (N := some 38) #[true, true, true, true, true, true, true, true, true, true, true, true, true, true, false, false, false] rfl rfl (one_of HT_.out (by kernel_rfl)) (by decide) (fun K hK => ?_)
 refine goes_ Tryz.func9 (by kernel_rfl) rfl #[.agg #[.slice A0x l0x.length c0x, .int .i64 nx, .slice A2x l2x.length c2x]] (by rfl) rfl rfl hL_ ?_
 (with_reducible refine (session_May.calls k _ _ l0x nx _ _ l2x t3 _ ?s1 ?s2 ?s3 ?s4 B8.out (GOK.below hG (below_step HX.out hC_))).mono ?_)
 (case s1 => exact (Kd.C_below HRx0.out (below_step HX.out hC_)))
 (case s2 => exact HCx0.out)
 (case s3 => exact (Kd.C_below HRx2.out (below_step HX.out hC_)))
 (case s4 => exact HCx2.out)
 rintro e wc6 ⟨rfl, hb⟩
 refine ⟨_, rfl, ?_⟩
 have hs_ := below_step hC_ hb
 replace HOa0 := a_ (Kd.S_below HOa0.out hs_)
 replace HOa2 := a_ (Kd.R_below HOa2.out hs_)
 replace HOb0 := a_ (Kd.C_below HOb0.out hs_)
 replace HOb2 := a_ (Kd.C_below HOb2.out hs_)
 replace B0 := a_ (blk_below B0.out hs_)
 replace B4 := a_ (blk_below B4.out hs_)
 replace B5 := a_ (blk_below B5.out hs_)
 replace BK6 := a_ (blk_below BK6.out hs_)
 replace HX := a_ (below_step HX.out hs_)
 replace HB := a_ (Below.refl wc6.heap.size wc6)
 clear hs_ hb
 refine hK.out _ _ ⟨(blk_cell B0.out 0).trans rfl, (blk_cell B0.out 1).trans rfl, (blk_cell B0.out 2).trans rfl, (blk_cell B4.out 0).trans rfl, (blk_cell B4.out 1).trans rfl, (blk_cell B4.out 2).trans rfl, (blk_cell B5.out 0).trans rfl, (blk_cell B5.out 1).trans rfl, (blk_cell B5.out 2).trans rfl, (blk_cell BK6.out 0).trans rfl, (blk_cell BK6.out 1).trans rfl, (blk_cell BK6.out 2).trans rfl⟩ (fun hHeld => ?_)
 clear hK K
 refine norm_ (a' := ?_) ?_ ?_
 rotate_left
 · show Act.put _ (some 38) _ = _
   simp only [Act.put, List.setIfInBounds_toArray, List.set_cons_zero, List.set_cons_succ, i64_w, i32_w]
   rfl
 refine one_ (i := 14) (N := some 40) #[true, true, true, true, true, true, true, true, true, true, true, true, true, true, true, false, false] rfl rfl (one_of HT_.out (by kernel_rfl)) (by decide) (fun K hK => ?_)
 refine goes_ Tryz.func10 (by kernel_rfl) rfl #[.agg #[.slice A0s l0s.length c0s, .int .i64 ns, .slice A2s l2s.length c2s]] (by rfl) rfl rfl hL_ ?_
 (with_reducible refine (sleuthref12_SessionMay.calls k _ _ l0s ns _ _ l2s t4 _ ?s1 ?s2 ?s3 ?s4 B9.out).mono ?_)
 (case s1 => exact (Kd.C_below HRs0.out (below_step HX.out hC_)))
 (case s2 => exact HCs0.out)
 (case s3 => exact (Kd.C_below HRs2.out (below_step HX.out hC_)))
 (case s4 => exact HCs2.out)
 rintro e wc7 ⟨rfl, hb⟩
 refine ⟨_, rfl, ?_⟩
 have hs_ := below_step hC_ hb
 replace HOa0 := a_ (Kd.S_below HOa0.out hs_)
 replace HOa2 := a_ (Kd.R_below HOa2.out hs_)
 replace HOb0 := a_ (Kd.C_below HOb0.out hs_)
 replace HOb2 := a_ (Kd.C_below HOb2.out hs_)
 replace B0 := a_ (blk_below B0.out hs_)
 replace B4 := a_ (blk_below B4.out hs_)
 replace B5 := a_ (blk_below B5.out hs_)
 replace BK6 := a_ (blk_below BK6.out hs_)
 replace HX := a_ (below_step HX.out hs_)
 replace HB := a_ (Below.refl wc7.heap.size wc7)
 clear hs_ hb
 refine hK.out _ _ ⟨(blk_cell B0.out 0).trans rfl, (blk_cell B0.out 1).trans rfl, (blk_cell B0.out 2).trans rfl, (blk_cell B4.out 0).trans rfl, (blk_cell B4.out 1).trans rfl, (blk_cell B4.out 2).trans rfl, (blk_cell B5.out 0).trans rfl, (blk_cell B5.out 1).trans rfl, (blk_cell B5.out 2).trans rfl, (blk_cell BK6.out 0).trans rfl, (blk_cell BK6.out 1).trans rfl, (blk_cell BK6.out 2).trans rfl⟩ (fun hHeld => ?_)
 clear hK K
 refine norm_ (a' := ?_) ?_ ?_
 rotate_left
 · show Act.put _ (some 40) _ = _
   simp only [Act.put, List.setIfInBounds_toArray, List.set_cons_zero, List.set_cons_succ, i64_w, i32_w]
   rfl
 refine pB_ 15 41 HT_.out ?_
 refine pB_ 16 42 HT_.out ?_
 refine done_ (done_of HT_.out (by kernel_rfl)) ?_
 (try clear z0 f0 z1 f1 z2 f2)
 obtain ⟨z0, z1, z2, f0, f1, f2⟩ := bx3_ B0.out
 (try clear z3 f3 z4 f4 z5 f5)
 obtain ⟨z3, z4, z5, f3, f4, f5⟩ := bx3_ B4.out
 (try clear z6 f6 z7 f7 z8 f8)
 obtain ⟨z6, z7, z8, f6, f7, f8⟩ := bx3_ B5.out
 (try clear z9 f9 z10 f10 z11 f11)
 obtain ⟨z9, z10, z11, f9, f10, f11⟩ := bx3_ BK6.out
 go_wp2_with (first
  | ((with_reducible refine gate_callee (f := 11) rfl ?_); refine goesL_ _ rfl rfl Tryz.func11 (by kernel_rfl) rfl #[.agg #[.slice A0a l0a.length c0a, .int .i64 na, .slice A2a l2a.length c2a]] rfl hL_ ?_; (with_reducible refine (sleuthlaw0_SpoilSession.callsS k _ _ _ _ l0a na l2a w1 _ (below_step HX.out hC_) (Kd.S_bound (Kd.S_below HOa0.out hC_)) (Kd.R_tight rfl (Kd.R_below HOa2.out hC_)) B10.out).mono ?_); rintro e wc8 ⟨rfl, hb, hk⟩; refine ⟨_, rfl, ?_⟩; replace B0 := a_ (blk_kept (g := g1) (o := .cells #[.slice A0s l0s.length c0s, .int .i64 ns, .slice A2s l2s.length c2s] 25 (0, 0)) (blk_below B0.out hC_) hk (fun h_ => h_.elim (fun h1_ => types_no (blk_below B0.out hC_) (by decide) h1_.2.2.2) (fun h1_ => (Kd.R_typed (Kd.R_below HOa2.out hC_) _ h1_.symm).elim (fun _ h2_ => types_no (blk_below B0.out hC_) (by decide) ⟨_, List.mem_singleton.2 rfl, _, h2_⟩)))); replace B4 := a_ (blk_kept (g := g2) (o := .cells #[.slice A0x l0x.length c0x, .int .i64 nx, .slice A2x l2x.length c2x] 25 (0, 0)) (blk_below B4.out hC_) hk (fun h_ => h_.elim (fun h1_ => types_no (blk_below B4.out hC_) (by decide) h1_.2.2.2) (fun h1_ => (Kd.R_typed (Kd.R_below HOa2.out hC_) _ h1_.symm).elim (fun _ h2_ => types_no (blk_below B4.out hC_) (by decide) ⟨_, List.mem_singleton.2 rfl, _, h2_⟩)))); replace B5 := a_ (blk_kept (g := g3) (o := .cells #[.slice A0a l0a.length c0a, .int .i64 na, .slice A2a l2a.length c2a] 25 (0, 0)) (blk_below B5.out hC_) hk (fun h_ => h_.elim (fun h1_ => types_no (blk_below B5.out hC_) (by decide) h1_.2.2.2) (fun h1_ => (Kd.R_typed (Kd.R_below HOa2.out hC_) _ h1_.symm).elim (fun _ h2_ => types_no (blk_below B5.out hC_) (by decide) ⟨_, List.mem_singleton.2 rfl, _, h2_⟩)))); replace BK6 := a_ (blk_kept (g := g0) (o := .cells #[.slice A0b l0b.length c0b, .int .i64 nb, .slice A2b l2b.length c2b] 25 (0, 0)) (blk_below BK6.out hC_) hk (fun h_ => h_.elim (fun h1_ => types_no (blk_below BK6.out hC_) (by decide) h1_.2.2.2) (fun h1_ => (Kd.R_typed (Kd.R_below HOa2.out hC_) _ h1_.symm).elim (fun _ h2_ => types_no (blk_below BK6.out hC_) (by decide) ⟨_, List.mem_singleton.2 rfl, _, h2_⟩)))); replace HX := a_ hb; replace HB := a_ (Below.refl wc8.heap.size wc8); clear hb hk HOa0 HOa2; (try clear z0 f0 z1 f1 z2 f2); obtain ⟨z0, z1, z2, f0, f1, f2⟩ := bx3_ B0.out; (try clear z3 f3 z4 f4 z5 f5); obtain ⟨z3, z4, z5, f3, f4, f5⟩ := bx3_ B4.out; (try clear z6 f6 z7 f7 z8 f8); obtain ⟨z6, z7, z8, f6, f7, f8⟩ := bx3_ B5.out; (try clear z9 f9 z10 f10 z11 f11); obtain ⟨z9, z10, z11, f9, f10, f11⟩ := bx3_ BK6.out)
  | ((with_reducible refine gate_callee (f := 7) rfl ?_); refine goesL_ _ rfl rfl Tryz.func7 (by kernel_rfl) rfl #[.agg #[.slice A0x l0x.length c0x, .int .i64 nx, .slice A2x l2x.length c2x], .agg #[.slice A0s l0s.length c0s, .int .i64 ns, .slice A2s l2s.length c2s]] rfl hL_ ?_; (with_reducible refine (sleuthlaw0_SameSession.calls k _ _ l0x nx _ _ l2x _ _ l0s ns _ _ l2s true _ ?s1 ?s2 ?s3 ?s4 ?s5 ?s6 ?s7 ?s8 B12.out).mono ?_); (case s1 => exact (Kd.C_below HRx0.out (below_step HX.out hC_))); (case s2 => exact HCx0.out); (case s3 => exact (Kd.C_below HRx2.out (below_step HX.out hC_))); (case s4 => exact HCx2.out); (case s5 => exact (Kd.C_below HRs0.out (below_step HX.out hC_))); (case s6 => exact HCs0.out); (case s7 => exact (Kd.C_below HRs2.out (below_step HX.out hC_))); (case s8 => exact HCs2.out); rintro e wc9 ⟨rfl, hb⟩; refine ⟨_, rfl, ?_⟩; have hs_ := below_step hC_ hb; replace B0 := a_ (blk_below B0.out hs_); replace B4 := a_ (blk_below B4.out hs_); replace B5 := a_ (blk_below B5.out hs_); replace BK6 := a_ (blk_below BK6.out hs_); replace HX := a_ (below_step HX.out hs_); replace HB := a_ (Below.refl wc9.heap.size wc9); clear hs_ hb; (try clear z0 f0 z1 f1 z2 f2); obtain ⟨z0, z1, z2, f0, f1, f2⟩ := bx3_ B0.out; (try clear z3 f3 z4 f4 z5 f5); obtain ⟨z3, z4, z5, f3, f4, f5⟩ := bx3_ B4.out; (try clear z6 f6 z7 f7 z8 f8); obtain ⟨z6, z7, z8, f6, f7, f8⟩ := bx3_ B5.out; (try clear z9 f9 z10 f10 z11 f11); obtain ⟨z9, z10, z11, f9, f10, f11⟩ := bx3_ BK6.out)
  | (go_at_call 12; (with_reducible refine (sleuthlaw21_awake.calls k r _ B13.out (GOK.below hG (below_step HX.out hC_))).mono ?_); rintro e wc10 ⟨rfl, hb⟩; have hs_ := below_step hC_ hb; replace B0 := a_ (blk_below B0.out hs_); replace B4 := a_ (blk_below B4.out hs_); replace B5 := a_ (blk_below B5.out hs_); replace BK6 := a_ (blk_below BK6.out hs_); replace HX := a_ (below_step HX.out hs_); replace HB := a_ (Below.refl wc10.heap.size wc10); clear hs_ hb; (try clear z0 f0 z1 f1 z2 f2); obtain ⟨z0, z1, z2, f0, f1, f2⟩ := bx3_ B0.out; (try clear z3 f3 z4 f4 z5 f5); obtain ⟨z3, z4, z5, f3, f4, f5⟩ := bx3_ B4.out; (try clear z6 f6 z7 f7 z8 f8); obtain ⟨z6, z7, z8, f6, f7, f8⟩ := bx3_ B5.out; (try clear z9 f9 z10 f10 z11 f11); obtain ⟨z9, z10, z11, f9, f10, f11⟩ := bx3_ BK6.out))
 go_ret
 exact ⟨hV_, below_step X0.out (below_step HX.out hC_)⟩

end Go.Proofs.YtijamgfpgdiigaaGreatDoor.G
end
section
namespace Go.Proofs.YtijamgfpgdiigaaGreatDoor.G
open Go.RowKit Go.Proofs.YtijamgfpgdiigaaGreatDoorW.PrintWords Go.Proofs.YtijamgfpgdiigaaGreatDoorW.PrintLast Go.Proofs.YtijamgfpgdiigaaGreatDoorW.PrintMore
set_option linter.unusedVariables false
set_option linter.unusedSimpArgs false
theorem refNew_ev (ns : List Nd) (hok : okN ns) (w : Int) : Ev (fun k => sleuthref12_NewSession.f k ns w) (newF ns w) := by
  unfold newF
  cases hm : mayT ns with
  | false => rw [Bool.false_and, if_neg Bool.false_ne_true]; exact refNew_no ns hok w hm
  | true =>
    cases hw : wayB w with
    | true => rw [Bool.true_and, if_pos rfl]; exact refNew_yes ns hok w hm hw
    | false =>
      rw [Bool.and_false, if_neg Bool.false_ne_true]
      unfold sleuthref12_NewSession.f
      have ht := refTrail_ev ns hok
      rw [hm] at ht
      refine Ev.bind ht ?_
      simp only [if_pos, wayR_eq, Option.bind_some, hw, if_neg Bool.false_ne_true]
      exact Ev.now _
theorem newF_fine {ns : List Nd} (hn : fineN ns) (w : Int) : fineN (newF ns w).1 ∧ (newF ns w).2.2.1.length ≤ 9223372036854775806 := by
  unfold newF
  split
  · exact ⟨hn, Nat.zero_le _⟩
  · exact ⟨fineN_nil, Nat.zero_le _⟩
theorem sessions_pure (l0 : List Nd) (a1 : Int) (l2 : List An) (h : fineN l0 ∧ (Lit.int .i64 a1).wf = true ∧ fineA l2) : ∃ k, sleuthlaw21_Sessions.f k l0 a1 l2 = some true := by
  refine Ev.rounds (g := fun k => sleuthlaw21_Sessions.f k l0 a1 l2) ?_
  have hok := h.1.ok
  have hz := h.2.2.1
  have hz' : l2.length ≤ 9223372036854775806 := by omega
  have fn := newF_fine h.1 a1
  have sn := sameSession_ev _ fn.1.ok (newF l0 a1).2.1 _ fn.2
  unfold sleuthlaw21_Sessions.f
  refine Ev.bind (copySession_ev l0 hok a1 l2 hz) (Ev.bind (new_ev l0 hok a1) (Ev.bind (refNew_ev l0 hok a1) (Ev.bind sn ?_)))
  simp only [if_pos, sleuthlaw0_Num.f, Option.bind_some]
  refine Ev.bind (sessMay_ev l0 a1 l2 hz') (Ev.bind (refSMay_ev l0 hok a1 l2 hz') ?_)
  simp only [if_pos]
  refine Ev.bind (spoilS_ev fn.1 fn.2) (Ev.bind (sameSession_ev l0 hok a1 l2 hz') ?_)
  simp only [if_pos]
  exact sessAwake_ev
end Go.Proofs.YtijamgfpgdiigaaGreatDoor.G
end
