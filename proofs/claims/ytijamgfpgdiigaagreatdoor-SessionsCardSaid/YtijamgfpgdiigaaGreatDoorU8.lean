/- Parts of this proof, one behind the other: G2, G25, G26, G1, G27, TNodes, TBits, G28, G29, G30, G31, TopVals, G32. -/
import Derived.Test.YtijamgfpgdiigaaGreatDoorU2
import Derived.Test.YtijamgfpgdiigaaGreatDoorG0
import Derived.Test.YtijamgfpgdiigaaGreatDoorU7
section
namespace Go.Proofs.YtijamgfpgdiigaaGreatDoor.G
open Go.RowKit Go.Proofs.YtijamgfpgdiigaaGreatDoorW.PrintWords Go.Proofs.YtijamgfpgdiigaaGreatDoorW.PrintLast Go.Proofs.YtijamgfpgdiigaaGreatDoorW.PrintMore
set_option maxHeartbeats 8000000
set_option maxRecDepth 100000
attribute [local go_sem] max2_int min2_int max_two min_two max_three min_three max_four min_four   -- for this text's walks alone
set_option linter.unusedVariables false
set_option linter.unusedSimpArgs false

def sleuthlaw0_CopyNodes.l0 : Nat → List (S57) → List (S57) → Int → Option ((List (S57)))
 | 0, _, _, _ => none
 | k + 1, x0, x3, x4 => if x4 < (x0.length : Int) then (if 0 ≤ x4 then ((some (([] : List ByteArray) : List ByteArray)).bind fun y103 => (if y103.length + ((rd_T57 x0 x4).f2).length < 8796093022208 then (if x3.length < 2513169434916 then (sleuthlaw0_CopyNodes.l0 k x0 (x3 ++ [(⟨(rd_T57 x0 x4).f0, (rd_T57 x0 x4).f1, (y103 ++ ((rd_T57 x0 x4).f2)), (rd_T57 x0 x4).f3⟩ : S57)]) (wrap64 (x4 + 1))) else (none)) else (none))) else (none)) else (some x3)
def sleuthlaw0_CopyNodes.f (k : Nat) (l0 : List (S57)) : Option ((List (S57))) := sleuthlaw0_CopyNodes.l0 k l0 ([] : List (S57)) 0
theorem sleuthlaw0_CopyNodes.calls (k : Nat) (A0 : Option Addr) (c0 : Nat) (l0 : List (S57)) (r : List (S57)) (w : World) (hr0 : Kd.C k57 w A0 l0.length l0) (hc0 : l0.length ≤ c0) (h : sleuthlaw0_CopyNodes.f k l0 = some r) :
 Calls Tryz.prog 13 #[.slice A0 l0.length c0] w fun e w' => ∃ v0_ : Value, e = .returned (v0_) ∧ Kd.S k57 57 w' w.heap.size (fun _ => True) v0_ r ∧ Below w.heap.size w w' := by
 have hu57 := Tryz.underlying57
 have HR0 := a_ hr0
 have HC0 := a_ hc0
 clear hr0 hc0
 have HB := a_ (Below.refl w.heap.size w)
 have H : (sleuthlaw0_CopyNodes.l0 k l0 ([] : List (S57)) 0) = some r := h
 clear h
 have H' := a_ H
 clear H
 go_enter Tryz.func13, Tryz.ntmps13
 go_wp2
 go_loopg [3, 4] k (fun kq v3 v4 w' => ∃ (x1 : List (S57)) (x0 : Int), v4 = .int .i64 x0 ∧ Aside0 (sleuthlaw0_CopyNodes.l0 kq l0 x1 x0 = some r) ∧ Aside0 (kq ≤ k) ∧ Aside0 (Kd.S k57 57 w' w.heap.size (fun _ => True) v3 x1) ∧ Aside0 (Below w.heap.size w w'))
 case atStart => exact ⟨(([] : List (S57))), (0), hW_, H', ⟨Nat.le_refl _⟩, ⟨by first | exact Kd.S_nil _ _ _ _ _ | exact Kd.N_nil _ _ _ _ _ | exact Kd.V_nil _ _ _ _ _ | exact Kd.Q_nil _ _ _ _ _ | exact Kd.R_nil _ _ _ _ _⟩, ⟨hC_⟩⟩
 case round =>
  clear H'
  try clear c1
  obtain ⟨x1, x0, rfl, HA, HK1, O0, HB⟩ := hrel
  cases gk with
  | zero => exact absurd HA.out (by simp [sleuthlaw0_CopyNodes.l0])
  | succ k1 =>
   have H := HA.out
   clear HA
   simp only [sleuthlaw0_CopyNodes.l0] at H
   by_cases c2 : x0 < (l0.length : Int)
   case neg =>
    rw [if_neg c2] at H
    have c2b0 : decide (x0 < (l0.length : Int)) = false := decide_eq_false c2
    clear c2
    obtain rfl := Option.some.inj H
    go_wp2
    go_ret
    exact ⟨_, hV_, by (with_reducible repeat (first | apply Kd.S_alloc | apply Kd.S_drewN | apply Kd.S_drew)); exact O0.out, hC_⟩

   rw [if_pos c2] at H
   have c2b0 : decide (x0 < (l0.length : Int)) = true := decide_eq_true c2
   clear c2
   replace H := ifI_ H; obtain ⟨c3, H⟩ := H
   have c3b0 : decide (0 ≤ x0) = true := decide_eq_true c3
   clear c3
   obtain ⟨y1, i0⟩ : ∃ y_ : List ByteArray, y_ = (([] : List ByteArray)) := ⟨_, rfl⟩
   replace H : (if y1.length + ((rd_T57 l0 x0).f2).length < 8796093022208 then (if x1.length < 2513169434916 then (sleuthlaw0_CopyNodes.l0 k1 l0 (x1 ++ [(⟨(rd_T57 l0 x0).f0, (rd_T57 l0 x0).f1, (y1 ++ ((rd_T57 l0 x0).f2)), (rd_T57 l0 x0).f3⟩ : S57)]) (wrap64 (x0 + 1))) else (none)) else (none)) = some r := by first | (rw [i0]; with_reducible exact H) | (have H2_ := (Option.bind_some _ _).symm.trans H; rw [i0]; with_reducible exact H2_) | (have H2_ := (Option.bind_some _ _).symm.trans H; with_reducible exact H2_) | with_reducible exact H | (rw [i0]; exact H) | exact H
   have Y0 := a_ i0
   clear i0
   replace H := ifI_ H; obtain ⟨c4, H⟩ := H
   have LMc4 := a_ c4
   clear c4
   obtain ⟨y0, i1⟩ : ∃ y_ : List ByteArray, y_ = (y1 ++ ((rd_T57 l0 x0).f2)) := ⟨_, rfl⟩
   replace H : (if x1.length < 2513169434916 then (sleuthlaw0_CopyNodes.l0 k1 l0 (x1 ++ [(⟨(rd_T57 l0 x0).f0, (rd_T57 l0 x0).f1, y0, (rd_T57 l0 x0).f3⟩ : S57)]) (wrap64 (x0 + 1))) else (none)) = some r := by first | (rw [i1]; with_reducible exact H) | (have H2_ := (Option.bind_some _ _).symm.trans H; rw [i1]; with_reducible exact H2_) | (have H2_ := (Option.bind_some _ _).symm.trans H; with_reducible exact H2_) | with_reducible exact H | (rw [i1]; exact H) | exact H
   have Y1 := a_ i1
   clear i1
   replace H := ifI_ H; obtain ⟨c5, H⟩ := H
   have LMc5 := a_ c5
   clear c5
   obtain ⟨y2, i2⟩ : ∃ y_ : List (S57), y_ = (x1 ++ [(⟨(rd_T57 l0 x0).f0, (rd_T57 l0 x0).f1, y0, (rd_T57 l0 x0).f3⟩ : S57)]) := ⟨_, rfl⟩
   replace H : (sleuthlaw0_CopyNodes.l0 k1 l0 y2 (wrap64 (x0 + 1))) = some r := by first | (rw [i2]; with_reducible exact H) | (have H2_ := (Option.bind_some _ _).symm.trans H; rw [i2]; with_reducible exact H2_) | (have H2_ := (Option.bind_some _ _).symm.trans H; with_reducible exact H2_) | with_reducible exact H | (rw [i2]; exact H) | exact H
   have Y2 := a_ i2
   clear i2
   have H' := a_ H
   clear H
   have p101 : 0 ≤ (x0 : Int) := of_decide_eq_true hA_
   have q101 : x0 < (l0.length : Int) := of_decide_eq_true hA_
   obtain ⟨d0, A101_2, c101_2, e101, h0, h1, h2, h3, hl101_2, hi101_2⟩ := at_T57 HR0.out x0 p101 q101
   cases e101
   replace h0 := cl_ HB.out h0
   replace h1 := cl_ HB.out h1
   replace h2 := cl_ HB.out h2
   replace h3 := cl_ HB.out h3
   have HR101_2 := a_ hi101_2
   have HC101_2 := a_ hl101_2
   clear hi101_2 hl101_2
   replace p101 := eq_true p101
   replace q101 := eq_true q101
   go_wp2_with (first | ((with_reducible refine gate_dst (N := 5) rfl ?_); refine boxE_ 5 #[.int .i64 0, .int .i64 0, .slice none 0 0, .string (⟨#[]⟩ : ByteArray)] 57 ?_; intro g0 hg w6 hbox hb; replace O0 := a_ (Kd.S_below (Kd.S_elderB (by (with_reducible repeat (first | apply Kd.S_alloc | apply Kd.S_drewN | apply Kd.S_drew)); exact O0.out) g0 (Nat.le_of_eq hg.symm)) hb); have B0 := a_ (hbox); have E0 := a_ ((gE_ hg : w.heap.size ≤ g0)); replace HB := a_ (below_step hB_ hb); clear hb hbox hg; obtain ⟨z0, z1, z2, z3, f4, f5, f6, f7⟩ := bx4_ B0.out) | ((with_reducible refine gate_dst (N := 16) rfl ?_); refine Kd.R_lit Kd.string _ 9 ?hg (N := 16) ?hd (xs := ([] : List ByteArray)) (inner := []) (ok := fun _ => True) (okp := fun _ => True) ?hr ?hp (fun _ hk => hk) trivial (Below.refl _ _) (Nat.le_refl _) (by simp) ?_; (case hd => rfl); (case hg => rfl); (case hr => first | (go_simp; done) | (go_simp; rfl)); (case hp => exact (Reps.none _ _)); intro v0 w8 ho9 hb hg_ hnew_; clear hg_ hnew_; (first | rw [← Y0.out] at ho9 | (simp only [Int.reduceToNat] at ho9; rw [← Y0.out] at ho9)); replace O0 := a_ (Kd.S_elder' (by (with_reducible repeat (first | apply Kd.S_alloc | apply Kd.S_drewN | apply Kd.S_drew)); exact (Kd.S_mono (sF_ (sF_ (sF_ (sF_ (Kd.S_mono O0.out (fun k_ hk => (⟨hk, hk.2⟩ : _ ∧ k_ ≠ g0))))))) (fun _ h_ => h_.1))) (Kd.R_base ho9) hb); have P1 := a_ (Kd.R_lower ho9 (below_size hC_)); replace B0 := a_ (blk_below (g := g0) (o := .cells #[.int .i64 ((rd_T57 l0 x0).f0), .int .i64 ((rd_T57 l0 x0).f1), .slice A101_2 ((rd_T57 l0 x0).f2).length c101_2, .string ((rd_T57 l0 x0).f3)] 57 (0, 0)) (by (with_reducible repeat (first | refine blk_drewN ?_ _ | refine blk_drew ?_ | refine blk_alloc ?_ _)); exact (bP_ (bP_ (bP_ (bP_ (hK_ B0.out)))))) hb); replace HB := a_ (below_step hC_ hb); clear hb ho9; obtain ⟨z4, z5, z6, z7, f8, f9, f10, f11⟩ := bx4_ B0.out) | ((with_reducible refine gate_builtin (b := .append) (xs := #[.tmp 16, .tmp 18]) rfl ?_); at_builtin; refine Kd.R_append_rows Kd.string (w0 := w) w.heap.size rfl (.tmp 16) (.tmp 18) 55 9 (.string ⟨#[]⟩) 16 rfl Tryz.underlying55 info9 rfl (by decide) (by omega) v0 y1 ((rd_T57 l0 x0).f2) _ _ _ (fun _ => True) (fun _ => False) rfl rfl ?aO ?aR (fun _ _ h => h) (fun _ h => h.elim) ?aF ?aB ?aS ?aL ?_; (case aR => exact cB_ HR101_2.out); (case aB => exact hC_); (case aF => exact (fun _ _ => trivial)); (case aO => exact (hR_ P1.out)); (case aS => exact (below_size hC_)); (case aL => have := LMc4.out; omega); intro v1 w3 ho hb hg hat; rw [← Y1.out] at ho; replace O0 := a_ (Kd.S_after (ok := (fun k_ => k_ ≠ g0)) (by (with_reducible repeat (first | apply Kd.S_alloc | apply Kd.S_drewN | apply Kd.S_drew)); exact Kd.S_mono O0.out (fun _ hk => ⟨hk.1.2, hk.2⟩)) hg hat); replace B0 := a_ (blk_grown (hK_ B0.out) hg (Kd.R_ne P1.out B0.out (by decide))); replace HB := a_ (hb); have P0 := a_ (ho); clear P1; clear ho hb hg hat; obtain ⟨a0, o0, e0⟩ := Kd.R_slice P0.out; subst e0; obtain ⟨z8, z9, z10, z11, f12, f13, f14, f15⟩ := bx4_ B0.out) | ((with_reducible refine gate_store (t := 55) (p := 20) rfl ?_); refine store_event (t := 55) (p := 20) (v := ?vo_w14) (w1 := (w3.setCell ⟨g0, 2, none⟩ (.slice a0 y0.length o0))) ?hg ?ho ?hn ?hr ?_; (case ho => rfl); (case hg => rfl); (case hn => rfl); (case hr => first | (go_simp; done) | (go_simp; rfl)); intro w2 hw; replace O0 : Aside0 (Kd.S k57 57 w2 w.heap.size (fun k_ => some k_ ≠ (.slice a0 y0.length o0 : Value).ownBlock ∧ k_ ≠ g0) u3 x1) := ⟨(by rw [hw]; exact (by (with_reducible repeat (first | apply Kd.S_alloc | apply Kd.S_drewN | apply Kd.S_drew)); exact Kd.S_mono (sF_ (Kd.S_mono O0.out (fun k_ hk => (⟨hk, hk.1⟩ : _ ∧ k_ ≠ g0)))) (fun _ hk => ⟨hk.1.2, hk.1.1⟩)))⟩; replace P0 : Aside0 (Kd.R Kd.string 9 w2 w.heap.size (fun _ => True) (.slice a0 y0.length o0) y0) := ⟨(by rw [hw]; exact (by (with_reducible repeat (first | apply Kd.R_alloc | apply Kd.R_drewN | apply Kd.R_drew)); exact Kd.R_mono (rF_ (Kd.R_types P0.out B0.out (by decide))) (fun _ hk => trivial)))⟩; replace B0 : Aside0 (w2.heap[g0]? = some (.cells #[.int .i64 ((rd_T57 l0 x0).f0), .int .i64 ((rd_T57 l0 x0).f1), .slice a0 y0.length o0, .string ((rd_T57 l0 x0).f3)] 57 (0, 0))) := ⟨(by rw [hw]; exact (bP_ (hK_ B0.out)))⟩; replace HB : Aside0 (Below w.heap.size w w2) := ⟨(by rw [hw]; exact hC_)⟩; clear hw; obtain ⟨z12, z13, z14, z15, f16, f17, f18, f19⟩ := bx4_ B0.out) | ((with_reducible refine gate_builtin (b := .append) (xs := #[.tmp 21, .tmp 23]) rfl ?_); at_builtin; refine Kd.S_append k57 (w0 := w) w.heap.size rfl (.tmp 21) (.tmp 23) 22 57 (.agg #[(.int .i64 0), (.int .i64 0), (.slice none 0 0), (.string ⟨#[]⟩)]) 56 rfl Tryz.underlying22 info57 rfl (by decide) (by omega) u3 x1 (⟨(rd_T57 l0 x0).f0, (rd_T57 l0 x0).f1, y0, (rd_T57 l0 x0).f3⟩ : S57) [.int .i64 ((rd_T57 l0 x0).f0), .int .i64 ((rd_T57 l0 x0).f1), .slice a0 y0.length o0, .string ((rd_T57 l0 x0).f3)] (fun k_ => k_ ≠ g0) (fun k_ => some k_ = (.slice a0 y0.length o0 : Value).ownBlock) rfl rfl ?aP (fun k_ hk_ => ((Kd.R_mono (ok' := fun k_ => ((fun k_ => k_ ≠ g0)) k_ ∧ some k_ ≠ (u3 : Value).ownBlock) (Kd.R_types (Kd.R_apart' (P0.out) (Kd.S_typed O0.out) (by decide)) B0.out (by decide)) (fun k_ hk => ⟨hk.2, hk.1.2⟩))).1 k_ hk_.symm) ?aF ?aO ?aB ?aS ?aL ?_; (case aP => exact k57_mkM _ _ _ (⟨(rd_T57 l0 x0).f0, (rd_T57 l0 x0).f1, y0, (rd_T57 l0 x0).f3⟩ : S57) (Kd.R_mono (Kd.R_tight rfl (Kd.R_mono (ok' := fun k_ => ((fun k_ => k_ ≠ g0)) k_ ∧ some k_ ≠ (u3 : Value).ownBlock) (Kd.R_types (Kd.R_apart' (P0.out) (Kd.S_typed O0.out) (by decide)) B0.out (by decide)) (fun k_ hk => ⟨hk.2, hk.1.2⟩))) (fun _ h_ => h_))); (case aB => exact hC_); (case aF => exact (fun k_ hk => Kd.freshB (g := g0) (o := .cells #[.int .i64 ((rd_T57 l0 x0).f0), .int .i64 ((rd_T57 l0 x0).f1), .slice a0 y0.length o0, .string ((rd_T57 l0 x0).f3)] 57 (0, 0)) (hK_ B0.out) k_ hk)); (case aO => exact (by (with_reducible repeat (first | apply Kd.S_alloc | apply Kd.S_drewN | apply Kd.S_drew)); exact Kd.S_mono O0.out (fun k_ hk => ⟨hk.2, fun e_ => hk.1 e_⟩))); (case aS => exact (below_size hC_)); (case aL => have := LMc5.out; omega); intro v2 w4 ho hb hg hat; rw [← Y2.out] at ho; replace B0 := a_ (blk_grown (hK_ B0.out) hg (Kd.S_away O0.out (fun _ hk => hk.2))); replace HB := a_ (hb); have P2 := a_ (ho); clear O0 P0; clear ho hb hg hat))
   go_roundg k1
   case measure => have := HK1.out; omega
   case rel => exact ⟨(y2), (wrap64 (x0 + 1)), hW_, H', ⟨by have := HK1.out; omega⟩, ⟨by (with_reducible repeat (first | apply Kd.S_alloc | apply Kd.S_drewN | apply Kd.S_drew)); exact Kd.S_mono P2.out (fun _ hk => trivial)⟩, ⟨hC_⟩⟩
def sleuthlaw0_CopySession.f (k : Nat) (l0_0 : List (S57)) (a0_1 : Int) (l0_2 : List (S46)) : Option ((List (S57)) × Int × (List (S46))) := (some (([] : List (S46)) : List (S46))).bind fun y114 => (if y114.length + l0_2.length < 8796093022208 then ((sleuthlaw0_CopyNodes.f k l0_0).bind fun t120 => (some (t120, a0_1, (y114 ++ l0_2)))) else (none))
def sleuthlaw0_CopySession.T2 : Bool × List (List Nat × List Nat) := (true, [([], []), ([0], [0]), ([1], [1]), ([], []), ([3], [3]), ([], []), ([2, 4, 5], [2, 4, 5]), ([6, 2, 0, 1, 2, 3, 4, 5, 6], [6])])
def sleuthlaw0_CopySession.B2 : List Nat := [0, 1, 3, 0, 8, 0, 63, 127]
theorem sleuthlaw0_CopySession.tab2 : rtab .any (opsOf Tryz.f4 2) = sleuthlaw0_CopySession.T2 := by kernel_rfl
theorem sleuthlaw0_CopySession.bits2 : waitsOk sleuthlaw0_CopySession.T2.2 sleuthlaw0_CopySession.B2 = true := by kernel_rfl
theorem sleuthlaw0_CopySession.calls (k : Nat) (A0_0 : Option Addr) (c0_0 : Nat) (l0_0 : List (S57)) (a0_1 : Int) (A0_2 : Option Addr) (c0_2 : Nat) (l0_2 : List (S46)) (r1 : List (S57)) (r2 : Int) (r3 : List (S46)) (w : World) (hr0_0 : Kd.C k57 w A0_0 l0_0.length l0_0) (hc0_0 : l0_0.length ≤ c0_0) (hr0_2 : Kd.C k46 w A0_2 l0_2.length l0_2) (hc0_2 : l0_2.length ≤ c0_2) (h : sleuthlaw0_CopySession.f k l0_0 a0_1 l0_2 = some (r1, r2, r3)) :
 Calls Tryz.prog 4 #[.agg #[.slice A0_0 l0_0.length c0_0, .int .i64 a0_1, .slice A0_2 l0_2.length c0_2]] w fun e w' => ∃ v0_ v2_ : Value, e = .returned (.agg #[v0_, .int .i64 r2, v2_]) ∧ Kd.S k57 57 w' w.heap.size (fun _ => True) v0_ r1 ∧ Kd.R k46 46 w' w.heap.size (fun _ => True) v2_ r3 ∧ Below w.heap.size w w' := by
 have hu25 := Tryz.underlying25
 have HR0_0 := a_ hr0_0
 have HC0_0 := a_ hc0_0
 clear hr0_0 hc0_0
 have HR0_2 := a_ hr0_2
 have HC0_2 := a_ hc0_2
 clear hr0_2 hc0_2
 have HB := a_ (Below.refl w.heap.size w)
 have H := h; unfold sleuthlaw0_CopySession.f at H
 clear h
 obtain ⟨y0, i0⟩ : ∃ y_ : List (S46), y_ = (([] : List (S46))) := ⟨_, rfl⟩
 replace H : (if y0.length + l0_2.length < 8796093022208 then ((sleuthlaw0_CopyNodes.f k l0_0).bind fun t0 => (some (t0, a0_1, (y0 ++ l0_2)))) else (none)) = some (r1, r2, r3) := by first | (rw [i0]; with_reducible exact H) | (have H2_ := (Option.bind_some _ _).symm.trans H; rw [i0]; with_reducible exact H2_) | (have H2_ := (Option.bind_some _ _).symm.trans H; with_reducible exact H2_) | with_reducible exact H | (rw [i0]; exact H) | exact H
 have Y0 := a_ i0
 clear i0
 replace H := ifI_ H; obtain ⟨c2, H⟩ := H
 have LMc2 := a_ c2
 clear c2
 obtain ⟨y1, i1⟩ : ∃ y_ : List (S46), y_ = (y0 ++ l0_2) := ⟨_, rfl⟩
 replace H : ((sleuthlaw0_CopyNodes.f k l0_0).bind fun t0 => (some (t0, a0_1, y1))) = some (r1, r2, r3) := by first | (rw [i1]; with_reducible exact H) | (have H2_ := (Option.bind_some _ _).symm.trans H; rw [i1]; with_reducible exact H2_) | (have H2_ := (Option.bind_some _ _).symm.trans H; with_reducible exact H2_) | with_reducible exact H | (rw [i1]; exact H) | exact H
 have Y1 := a_ i1
 clear i1
 replace H := Option.bind_eq_some_iff.mp H
 obtain ⟨t0, A30, H⟩ := H
 try dsimp only at H
 have A3 := a_ A30
 clear A30
 simp only [Option.some.injEq, Prod.mk.injEq] at H
 obtain ⟨rfl, rfl, rfl⟩ := H
 go_enter Tryz.func4, Tryz.ntmps4
 try go_wp2_with (first | ((with_reducible refine gate_dst (N := 1) rfl ?_); refine boxE_ 1 #[.slice A0_0 l0_0.length c0_0, .int .i64 a0_1, .slice A0_2 l0_2.length c0_2] 25 ?_; intro g1 hg w4 hbox hb; have B0 := a_ (hbox); have E0 := a_ ((gE_ hg : w.heap.size ≤ g1)); replace HB := a_ (below_step hB_ hb); clear hb hbox hg) | ((with_reducible refine gate_dst (N := 2) rfl ?_); refine boxE_ 2 #[.slice none 0 0, .int .i64 0, .slice none 0 0] 25 ?_; intro g0 hg w5 hbox hb; have B1 := a_ (hbox); have E1 := a_ ((gE_ hg : w.heap.size ≤ g0)); replace HB := a_ (below_step hC_ hb); have N0 := a_ ((bL_ B0.out hg : g1 ≠ g0)); have N1 := a_ ((bG_ B0.out hg : g0 ≠ g1)); replace B0 := a_ (bB_ B0.out hb); clear hb hbox hg) | ((with_reducible refine gate_dst (N := 4) rfl ?_); refine Kd.R_lit k46 _ 46 ?hg (N := 4) ?hd (xs := ([] : List (S46))) (inner := []) (ok := fun _ => True) (okp := fun _ => True) ?hr ?hp (fun _ hk => hk) trivial (Below.refl _ _) (Nat.le_refl _) (by simp) ?_; (case hd => rfl); (case hg => rfl); (case hr => first | (go_simp; done) | (go_simp; rfl)); (case hp => exact (Reps.none _ _)); intro v0 w6 ho7 hb hg_ hnew_; clear hg_ hnew_; (first | rw [← Y0.out] at ho7 | (simp only [Int.reduceToNat] at ho7; rw [← Y0.out] at ho7)); have P1 := a_ (Kd.R_lower ho7 (below_size hC_)); replace B0 := a_ (bB_ B0.out hb); replace B1 := a_ (bB_ B1.out hb); replace HB := a_ (below_step hC_ hb); clear hb ho7; have m0 := N0.out; have n0 := N1.out; obtain ⟨z0, z1, z2, f0, f1, f2⟩ := bx3_ B0.out) | ((with_reducible refine gate_builtin (b := .append) (xs := #[.tmp 4, .tmp 6]) rfl ?_); at_builtin; refine Kd.R_append_rows k46 (w0 := w) w.heap.size rfl (.tmp 4) (.tmp 6) 23 46 (.agg #[(.int .i64 0), (.int .i64 0)]) 16 rfl Tryz.underlying23 info46 rfl (by decide) (by omega) v0 y0 l0_2 _ _ _ (fun _ => True) (fun _ => False) rfl rfl ?aO ?aR (fun _ _ h => h) (fun _ h => h.elim) ?aF ?aB ?aS ?aL ?_; (case aR => exact cB_ HR0_2.out); (case aB => exact hC_); (case aF => exact (fun _ _ => trivial)); (case aO => exact (hR_ P1.out)); (case aS => exact (below_size hC_)); (case aL => have := LMc2.out; omega); intro v1 w2 ho hb hg hat; rw [← Y1.out] at ho; replace B0 := a_ (blk_grown (hK_ B0.out) hg (Kd.R_ne P1.out B0.out (by decide))); replace B1 := a_ (blk_grown (hK_ B1.out) hg (Kd.R_ne P1.out B1.out (by decide))); replace HB := a_ (hb); have P0 := a_ (ho); clear P1; clear ho hb hg hat))
 replace P0 := a_ (Kd.R_drew P0.out)
 replace B0 := a_ (blk_drew B0.out)
 replace B1 := a_ (blk_drew B1.out)
 replace HB := a_ (below_drew1 HB.out)
 refine start_ (n := 8) (S := fun w' => w'.cell? ⟨g1, 0, none⟩ = some (.slice A0_0 l0_0.length c0_0) ∧ w'.cell? ⟨g1, 1, none⟩ = some (.int .i64 a0_1) ∧ w'.cell? ⟨g1, 2, none⟩ = some (.slice A0_2 l0_2.length c0_2)) (ds := []) #[false, false, false, false, false, false, false, false] (by kernel_rfl) rfl rfl ⟨(blk_cell B0.out 0).trans rfl, (blk_cell B0.out 1).trans rfl, (blk_cell B0.out 2).trans rfl⟩ (fun hHeld => ?_); refine with_tabW sleuthlaw0_CopySession.tab2 sleuthlaw0_CopySession.bits2 (fun HT_ HW_ => ?_)
 generalize w2.drew = w3 at P0 B0 B1 HB hHeld ⊢
 refine pB_ 0 8 HT_.out ?_
 refine pB_ 3 11 HT_.out ?_
 refine pB_ 5 13 HT_.out ?_
 refine tB_ 1 9 HT_.out HW_.out hHeld ?_
 refine tB_ 4 12 HT_.out HW_.out hHeld ?_
 refine one_ (i := 2) (N := some 10) #[true, true, true, true, true, true, false, false] rfl rfl (one_of HT_.out (by kernel_rfl)) (by decide) (fun K hK => ?_)
 refine goes_ Tryz.func13 (by kernel_rfl) rfl #[.slice A0_0 l0_0.length c0_0] (by rfl) rfl rfl hL_ ?_
 with_reducible refine (sleuthlaw0_CopyNodes.calls k _ _ l0_0 t0 _ ?s1 ?s2 A3.out).mono ?_
 (case s1 => exact cB_ HR0_0.out)
 (case s2 => exact HC0_0.out)
 rintro e w7 ⟨v2, rfl, ho0, hb⟩
 refine ⟨_, rfl, ?_⟩
 replace P0 := a_ (Kd.R_below (hR_ P0.out) hb)
 have P2 := a_ (Kd.S_lower ho0 (below_size hC_))
 replace B0 := a_ (bB_ B0.out hb)
 replace B1 := a_ (bB_ B1.out hb)
 replace HB := a_ (below_step hC_ hb)
 (try clear hb)
 (try clear hb2)
 (try clear hk)
 (try clear hi)
 (try clear ho0)
 obtain ⟨a0, o0, e0⟩ := Kd.R_slice P0.out
 (first | subst e0 | (injection e0 with f1_ f2_ f3_; have f4_ := f1_.symm; have f5_ := f3_.symm; clear f1_ f2_ f3_; subst f4_; subst f5_))
 obtain ⟨a1, o1, e1⟩ := Kd.S_slice P2.out
 (first | subst e1 | (injection e1 with f1_ f2_ f3_; have f4_ := f1_.symm; have f5_ := f3_.symm; clear f1_ f2_ f3_; subst f4_; subst f5_))
 refine hK.out _ _ ⟨(blk_cell B0.out 0).trans rfl, (blk_cell B0.out 1).trans rfl, (blk_cell B0.out 2).trans rfl⟩ (fun hHeld => ?_)
 clear hK K
 refine norm_ (a' := ?_) ?_ ?_
 rotate_left
 · show Act.put _ (some 10) _ = _
   simp only [Act.put, List.setIfInBounds_toArray, List.set_cons_zero, List.set_cons_succ, i64_w, i32_w]
   rfl
 refine pB_ 6 14 HT_.out ?_
 refine one_ (i := 7) (N := none) #[true, true, true, true, true, true, true, true] rfl rfl (one_of HT_.out (by kernel_rfl)) (by decide) (fun K hK => ?_)
 have hs15 := bc0_ B1.out
 have hfs15 := blk_frozen B1.out 0
 have hns15_0 := N0.out
 have hms15_0 := N1.out
 have hs16 := bc1_ B1.out
 have hfs16 := blk_frozen B1.out 1
 have hns16_0 := N0.out
 have hms16_0 := N1.out
 have hs17 := bc2_ B1.out
 have hfs17 := blk_frozen B1.out 2
 have hns17_0 := N0.out
 have hms17_0 := N1.out
 refine skip_ (w1 := ?_) (by rfl) rfl ?_ ?_
 rotate_left
 · go_simp
   rfl
 refine hK.out _ _ ⟨((cell_far (p := ⟨g0, _, none⟩) N0.out _).trans (((cell_far (p := ⟨g0, _, none⟩) N0.out _).trans (((cell_far (p := ⟨g0, _, none⟩) N0.out _).trans (hHeld.1)))))), ((cell_far (p := ⟨g0, _, none⟩) N0.out _).trans (((cell_far (p := ⟨g0, _, none⟩) N0.out _).trans (((cell_far (p := ⟨g0, _, none⟩) N0.out _).trans (hHeld.2.1)))))), ((cell_far (p := ⟨g0, _, none⟩) N0.out _).trans (((cell_far (p := ⟨g0, _, none⟩) N0.out _).trans (((cell_far (p := ⟨g0, _, none⟩) N0.out _).trans (hHeld.2.2))))))⟩ (fun hHeld => ?_)
 clear hK K
 refine done_ (done_of HT_.out (by kernel_rfl)) ?_
 try go_wp2
 refine bodyPost_ret (results_cell_row rfl _ _ g0 25 #[.slice a1 t0.length o1, .int .i64 a0_1, .slice a0 y1.length o0] (0, 0) _ rfl (bP_ (bP_ (bP_ (hK_ B1.out)))) Tryz.underlying25 rfl (by kernel_rfl)) rfl ?_
 exact ⟨_, _, hV_, by (with_reducible repeat (first | apply Kd.S_alloc | apply Kd.S_drewN | apply Kd.S_drew)); exact Kd.S_mono (sF_ (sF_ (sF_ (Kd.S_types P2.out B1.out (by decide))))) (fun _ hk => trivial), hR_ (Kd.R_mono (rF_ (rF_ (rF_ (Kd.R_types P0.out B1.out (by decide))))) (fun _ hk => trivial)), hC_⟩
set_option maxHeartbeats 8000000
set_option maxRecDepth 100000
attribute [local go_sem] max2_int min2_int max_two min_two max_three min_three max_four min_four   -- for this text's walks alone
set_option linter.unusedVariables false
set_option linter.unusedSimpArgs false

def sleuthlaw0_SameTexts.l0 : Nat → List ByteArray → List ByteArray → Int → Option (Bool)
 | 0, _, _, _ => none
 | k + 1, x0, x1, x5 => if x5 < (x0.length : Int) then (if 0 ≤ x5 then (if x5 < (x1.length : Int) then (if (rdOf ByteArray.empty x0 x5).toList = (rdOf ByteArray.empty x1 x5).toList then (sleuthlaw0_SameTexts.l0 k x0 x1 (wrap64 (x5 + 1))) else (some false)) else (none)) else (none)) else (some true)
def sleuthlaw0_SameTexts.f (k : Nat) (l0 : List ByteArray) (l1 : List ByteArray) : Option (Bool) := if (l0.length : Int) = (l1.length : Int) then (sleuthlaw0_SameTexts.l0 k l0 l1 0) else (some false)
theorem sleuthlaw0_SameTexts.calls (k : Nat) (A0 : Option Addr) (c0 : Nat) (l0 : List ByteArray) (A1 : Option Addr) (c1 : Nat) (l1 : List ByteArray) (r : Bool) (w : World) (hr0 : Kd.C Kd.string w A0 l0.length l0) (hc0 : l0.length ≤ c0) (hr1 : Kd.C Kd.string w A1 l1.length l1) (hc1 : l1.length ≤ c1) (h : sleuthlaw0_SameTexts.f k l0 l1 = some r) :
 Calls Tryz.prog 42 #[.slice A0 l0.length c0, .slice A1 l1.length c1] w fun e w' => e = .returned (.bool r) ∧ Drawn0 w w' := by
 have HR0 := a_ hr0
 have HC0 := a_ hc0
 clear hr0 hc0
 have HR1 := a_ hr1
 have HC1 := a_ hc1
 clear hr1 hc1
 have H := h; unfold sleuthlaw0_SameTexts.f at H
 clear h
 by_cases c3 : (l0.length : Int) = (l1.length : Int)
 case neg =>
  rw [if_neg c3] at H
  have c3b0 : ((l0.length : Int) == (l1.length : Int)) = false := beq_eq_false_iff_ne.mpr c3
  have c3b1 : ((l0.length : Int) != (l1.length : Int)) = true := bne_iff_ne.mpr c3
  have c3b2 : (l0.length == l1.length) = false := by first | simpa using c3 | (simp at c3 ⊢; omega)
  obtain rfl := Option.some.inj H
  go_enter Tryz.func42, Tryz.ntmps42
  go_wp2
  repeat (go_quiet (fail); try go_wp2)
  go_ret
  exact ⟨by first | rfl | (simp; done) | (simp [*]; done), by repeat (first | exact Drawn0.refl _ | apply Drawn0.step)⟩

 rw [if_pos c3] at H
 have c3b0 : ((l0.length : Int) == (l1.length : Int)) = true := beq_iff_eq.mpr c3
 have c3b1 : ((l0.length : Int) != (l1.length : Int)) = false := bne_eq_false_iff_eq.mpr c3
 have c3b2 : (l0.length == l1.length) = true := by first | simpa using c3 | (simp at c3 ⊢; omega)
 clear c3
 have H' := a_ H
 clear H
 go_enter Tryz.func42, Tryz.ntmps42
 go_wp2
 repeat (go_quiet (fail); try go_wp2)
 go_loopg [5] k (fun kq v5 w' => ∃ (x0 : Int), v5 = .int .i64 x0 ∧ Aside0 (sleuthlaw0_SameTexts.l0 kq l0 l1 x0 = some r) ∧ Aside0 (kq ≤ k) ∧ Drawn0 w w')
 case atStart => exact ⟨(0), hW_, H', ⟨Nat.le_refl _⟩, by repeat (first | exact Drawn0.refl _ | apply Drawn0.step)⟩
 case round =>
  clear H'
  try clear c1
  try clear p2
  try clear c3
  try clear c3b0
  try clear c3b1
  try clear c3b2
  obtain ⟨x0, rfl, HA, HK1, ⟨m1, rfl⟩⟩ := hrel
  cases gk with
  | zero => exact absurd HA.out (by simp [sleuthlaw0_SameTexts.l0])
  | succ k1 =>
   have H := HA.out
   clear HA
   simp only [sleuthlaw0_SameTexts.l0] at H
   by_cases c4 : x0 < (l0.length : Int)
   case neg =>
    rw [if_neg c4] at H
    have c4b0 : decide (x0 < (l0.length : Int)) = false := decide_eq_false c4
    clear c4
    obtain rfl := Option.some.inj H
    go_wp2
    repeat (go_quiet (fail); try go_wp2)
    go_ret
    exact ⟨by first | rfl | (simp; done) | (simp [*]; done), by repeat (first | exact Drawn0.refl _ | apply Drawn0.step)⟩
   rw [if_pos c4] at H
   have c4b0 : decide (x0 < (l0.length : Int)) = true := decide_eq_true c4
   clear c4
   replace H := ifI_ H; obtain ⟨c5, H⟩ := H
   have c5b0 : decide (0 ≤ x0) = true := decide_eq_true c5
   clear c5
   replace H := ifI_ H; obtain ⟨c6, H⟩ := H
   have c6b0 : decide (x0 < (l1.length : Int)) = true := decide_eq_true c6
   clear c6
   by_cases c7 : (rdOf ByteArray.empty l0 x0).toList = (rdOf ByteArray.empty l1 x0).toList
   case neg =>
    rw [if_neg c7] at H
    have c7b0 : ((rdOf ByteArray.empty l0 x0).toList == (rdOf ByteArray.empty l1 x0).toList) = false := beq_eq_false_iff_ne.mpr c7
    have c7b1 : ((rdOf ByteArray.empty l0 x0).toList != (rdOf ByteArray.empty l1 x0).toList) = true := bne_iff_ne.mpr c7
    obtain rfl := Option.some.inj H
    have p290 : 0 ≤ (x0 : Int) := of_decide_eq_true hA_
    have q290 : x0 < (l0.length : Int) := of_decide_eq_true hA_
    obtain ⟨d0, e290, h0⟩ := Kd.at_string HR0.out x0 p290 q290
    cases e290
    replace p290 := eq_true p290
    replace q290 := eq_true q290
    have p291 : 0 ≤ (x0 : Int) := of_decide_eq_true hA_
    have q291 : x0 < (l1.length : Int) := of_decide_eq_true hA_
    obtain ⟨d1, e291, h1⟩ := Kd.at_string HR1.out x0 p291 q291
    cases e291
    replace p291 := eq_true p291
    replace q291 := eq_true q291
    go_wp2
    repeat (go_quiet (fail); try go_wp2)
    go_ret
    exact ⟨by first | rfl | (simp; done) | (simp [*]; done), by repeat (first | exact Drawn0.refl _ | apply Drawn0.step)⟩
   rw [if_pos c7] at H
   have c7b0 : ((rdOf ByteArray.empty l0 x0).toList == (rdOf ByteArray.empty l1 x0).toList) = true := beq_iff_eq.mpr c7
   have c7b1 : ((rdOf ByteArray.empty l0 x0).toList != (rdOf ByteArray.empty l1 x0).toList) = false := bne_eq_false_iff_eq.mpr c7
   clear c7
   have H' := a_ H
   clear H
   have p290 : 0 ≤ (x0 : Int) := of_decide_eq_true hA_
   have q290 : x0 < (l0.length : Int) := of_decide_eq_true hA_
   obtain ⟨d0, e290, h0⟩ := Kd.at_string HR0.out x0 p290 q290
   cases e290
   replace p290 := eq_true p290
   replace q290 := eq_true q290
   have p291 : 0 ≤ (x0 : Int) := of_decide_eq_true hA_
   have q291 : x0 < (l1.length : Int) := of_decide_eq_true hA_
   obtain ⟨d1, e291, h1⟩ := Kd.at_string HR1.out x0 p291 q291
   cases e291
   replace p291 := eq_true p291
   replace q291 := eq_true q291
   go_wp2
   repeat (go_quiet (fail); try go_wp2)
   go_roundg k1
   case measure => have := HK1.out; omega
   case rel => exact ⟨(wrap64 (x0 + 1)), hW_, H', ⟨by have := HK1.out; omega⟩, by repeat (first | exact Drawn0.refl _ | apply Drawn0.step)⟩
def sleuthlaw0_SameNode.f (k : Nat) (a0_0 : Int) (a0_1 : Int) (l0_2 : List ByteArray) (a0_3 : ByteArray) (a1_0 : Int) (a1_1 : Int) (l1_2 : List ByteArray) (a1_3 : ByteArray) : Option (Bool) := if a0_0 = a1_0 then (if a0_1 = a1_1 then ((sleuthlaw0_SameTexts.f k l0_2 l1_2).bind fun t294 => (if t294 = true then (some (a0_3.toList == a1_3.toList)) else (some false))) else (some false)) else (some false)
theorem sleuthlaw0_SameNode.calls (k : Nat) (a0_0 : Int) (a0_1 : Int) (A0_2 : Option Addr) (c0_2 : Nat) (l0_2 : List ByteArray) (a0_3 : ByteArray) (a1_0 : Int) (a1_1 : Int) (A1_2 : Option Addr) (c1_2 : Nat) (l1_2 : List ByteArray) (a1_3 : ByteArray) (r : Bool) (w : World) (hr0_2 : Kd.C Kd.string w A0_2 l0_2.length l0_2) (hc0_2 : l0_2.length ≤ c0_2) (hr1_2 : Kd.C Kd.string w A1_2 l1_2.length l1_2) (hc1_2 : l1_2.length ≤ c1_2) (h : sleuthlaw0_SameNode.f k a0_0 a0_1 l0_2 a0_3 a1_0 a1_1 l1_2 a1_3 = some r) :
 Calls Tryz.prog 34 #[.agg #[.int .i64 a0_0, .int .i64 a0_1, .slice A0_2 l0_2.length c0_2, .string a0_3], .agg #[.int .i64 a1_0, .int .i64 a1_1, .slice A1_2 l1_2.length c1_2, .string a1_3]] w fun e w' => e = .returned (.bool r) ∧ Below w.heap.size w w' := by
 have hu57 := Tryz.underlying57
 have HR0_2 := a_ hr0_2
 have HC0_2 := a_ hc0_2
 clear hr0_2 hc0_2
 have HR1_2 := a_ hr1_2
 have HC1_2 := a_ hc1_2
 clear hr1_2 hc1_2
 have HB := a_ (Below.refl w.heap.size w)
 have H := h; unfold sleuthlaw0_SameNode.f at H
 clear h
 by_cases c3 : a0_0 = a1_0
 case neg =>
  rw [if_neg c3] at H
  have c3b0 : (a0_0 == a1_0) = false := beq_eq_false_iff_ne.mpr c3
  have c3b1 : (a0_0 != a1_0) = true := bne_iff_ne.mpr c3
  obtain rfl := Option.some.inj H
  go_enter Tryz.func34, Tryz.ntmps34
  go_wp2_with (first | ((with_reducible refine gate_dst (N := 2) rfl ?_); refine boxE_ 2 #[.int .i64 a0_0, .int .i64 a0_1, .slice A0_2 l0_2.length c0_2, .string a0_3] 57 ?_; intro g0 hg w0 hbox hb; have B0 := a_ (hbox); have E0 := a_ ((gE_ hg : w.heap.size ≤ g0)); replace HB := a_ (below_step hB_ hb); clear hb hbox hg) | ((with_reducible refine gate_dst (N := 3) rfl ?_); refine boxE_ 3 #[.int .i64 a1_0, .int .i64 a1_1, .slice A1_2 l1_2.length c1_2, .string a1_3] 57 ?_; intro g1 hg w1 hbox hb; have B1 := a_ (hbox); have E1 := a_ ((gE_ hg : w.heap.size ≤ g1)); replace HB := a_ (below_step hC_ hb); have N0 := a_ ((bL_ B0.out hg : g0 ≠ g1)); have N1 := a_ ((bG_ B0.out hg : g1 ≠ g0)); replace B0 := a_ (bB_ B0.out hb); clear hb hbox hg; have m0 := N0.out; have n0 := N1.out; obtain ⟨z0, z1, z2, z3, f0, f1, f2, f3⟩ := bx4_ B0.out; obtain ⟨z4, z5, z6, z7, f4, f5, f6, f7⟩ := bx4_ B1.out))
  go_ret
  exact ⟨hV_, hC_⟩

 rw [if_pos c3] at H
 have c3b0 : (a0_0 == a1_0) = true := beq_iff_eq.mpr c3
 have c3b1 : (a0_0 != a1_0) = false := bne_eq_false_iff_eq.mpr c3
 clear c3
 by_cases c4 : a0_1 = a1_1
 case neg =>
  rw [if_neg c4] at H
  have c4b0 : (a0_1 == a1_1) = false := beq_eq_false_iff_ne.mpr c4
  have c4b1 : (a0_1 != a1_1) = true := bne_iff_ne.mpr c4
  obtain rfl := Option.some.inj H
  go_enter Tryz.func34, Tryz.ntmps34
  go_wp2_with (first | ((with_reducible refine gate_dst (N := 2) rfl ?_); refine boxE_ 2 #[.int .i64 a0_0, .int .i64 a0_1, .slice A0_2 l0_2.length c0_2, .string a0_3] 57 ?_; intro g0 hg w2 hbox hb; have B0 := a_ (hbox); have E0 := a_ ((gE_ hg : w.heap.size ≤ g0)); replace HB := a_ (below_step hB_ hb); clear hb hbox hg) | ((with_reducible refine gate_dst (N := 3) rfl ?_); refine boxE_ 3 #[.int .i64 a1_0, .int .i64 a1_1, .slice A1_2 l1_2.length c1_2, .string a1_3] 57 ?_; intro g1 hg w3 hbox hb; have B1 := a_ (hbox); have E1 := a_ ((gE_ hg : w.heap.size ≤ g1)); replace HB := a_ (below_step hC_ hb); have N0 := a_ ((bL_ B0.out hg : g0 ≠ g1)); have N1 := a_ ((bG_ B0.out hg : g1 ≠ g0)); replace B0 := a_ (bB_ B0.out hb); clear hb hbox hg; have m1 := N0.out; have n1 := N1.out; obtain ⟨z8, z9, z10, z11, f8, f9, f10, f11⟩ := bx4_ B0.out; obtain ⟨z12, z13, z14, z15, f12, f13, f14, f15⟩ := bx4_ B1.out))
  go_ret
  exact ⟨hV_, hC_⟩
 rw [if_pos c4] at H
 have c4b0 : (a0_1 == a1_1) = true := beq_iff_eq.mpr c4
 have c4b1 : (a0_1 != a1_1) = false := bne_eq_false_iff_eq.mpr c4
 clear c4
 replace H := Option.bind_eq_some_iff.mp H
 obtain ⟨t0, A50, H⟩ := H
 try dsimp only at H
 have A5 := a_ A50
 clear A50
 by_cases c6 : t0 = true
 case pos =>
  subst c6
  rw [if_pos rfl] at H
  obtain rfl := Option.some.inj H
  go_enter Tryz.func34, Tryz.ntmps34
  go_wp2_with (first | ((with_reducible refine gate_dst (N := 2) rfl ?_); refine boxE_ 2 #[.int .i64 a0_0, .int .i64 a0_1, .slice A0_2 l0_2.length c0_2, .string a0_3] 57 ?_; intro g0 hg w7 hbox hb; have B0 := a_ (hbox); have E0 := a_ ((gE_ hg : w.heap.size ≤ g0)); replace HB := a_ (below_step hB_ hb); clear hb hbox hg) | ((with_reducible refine gate_dst (N := 3) rfl ?_); refine boxE_ 3 #[.int .i64 a1_0, .int .i64 a1_1, .slice A1_2 l1_2.length c1_2, .string a1_3] 57 ?_; intro g1 hg w8 hbox hb; have B1 := a_ (hbox); have E1 := a_ ((gE_ hg : w.heap.size ≤ g1)); replace HB := a_ (below_step hC_ hb); have N0 := a_ ((bL_ B0.out hg : g0 ≠ g1)); have N1 := a_ ((bG_ B0.out hg : g1 ≠ g0)); replace B0 := a_ (bB_ B0.out hb); clear hb hbox hg; have m2 := N0.out; have n2 := N1.out; obtain ⟨z16, z17, z18, z19, f16, f17, f18, f19⟩ := bx4_ B0.out; obtain ⟨z20, z21, z22, z23, f20, f21, f22, f23⟩ := bx4_ B1.out) | (go_at_call 42; (with_reducible refine (sleuthlaw0_SameTexts.calls k _ _ l0_2 _ _ l1_2 true _ ?s1 ?s2 ?s3 ?s4 A5.out).mono ?_); (case s1 => exact cB_ HR0_2.out); (case s2 => exact HC0_2.out); (case s3 => exact cB_ HR1_2.out); (case s4 => exact HC1_2.out); rintro e w' ⟨rfl, ⟨nd, rfl⟩⟩))
  go_ret
  exact ⟨hV_, hC_⟩
 replace c6 := Bool.eq_false_iff.mpr c6
 subst c6
 rw [if_neg (show ¬ (false = true) by decide)] at H
 obtain rfl := Option.some.inj H
 go_enter Tryz.func34, Tryz.ntmps34
 go_wp2_with (first | ((with_reducible refine gate_dst (N := 2) rfl ?_); refine boxE_ 2 #[.int .i64 a0_0, .int .i64 a0_1, .slice A0_2 l0_2.length c0_2, .string a0_3] 57 ?_; intro g0 hg w4 hbox hb; have B0 := a_ (hbox); have E0 := a_ ((gE_ hg : w.heap.size ≤ g0)); replace HB := a_ (below_step hB_ hb); clear hb hbox hg) | ((with_reducible refine gate_dst (N := 3) rfl ?_); refine boxE_ 3 #[.int .i64 a1_0, .int .i64 a1_1, .slice A1_2 l1_2.length c1_2, .string a1_3] 57 ?_; intro g1 hg w5 hbox hb; have B1 := a_ (hbox); have E1 := a_ ((gE_ hg : w.heap.size ≤ g1)); replace HB := a_ (below_step hC_ hb); have N0 := a_ ((bL_ B0.out hg : g0 ≠ g1)); have N1 := a_ ((bG_ B0.out hg : g1 ≠ g0)); replace B0 := a_ (bB_ B0.out hb); clear hb hbox hg; have m3 := N0.out; have n3 := N1.out; obtain ⟨z24, z25, z26, z27, f24, f25, f26, f27⟩ := bx4_ B0.out; obtain ⟨z28, z29, z30, z31, f28, f29, f30, f31⟩ := bx4_ B1.out) | (go_at_call 42; (with_reducible refine (sleuthlaw0_SameTexts.calls k _ _ l0_2 _ _ l1_2 false _ ?s1 ?s2 ?s3 ?s4 A5.out).mono ?_); (case s1 => exact cB_ HR0_2.out); (case s2 => exact HC0_2.out); (case s3 => exact cB_ HR1_2.out); (case s4 => exact HC1_2.out); rintro e w' ⟨rfl, ⟨nd, rfl⟩⟩))
 go_ret
 exact ⟨hV_, hC_⟩
set_option maxHeartbeats 8000000
set_option maxRecDepth 100000
attribute [local go_sem] max2_int min2_int max_two min_two max_three min_three max_four min_four   -- for this text's walks alone
set_option linter.unusedVariables false
set_option linter.unusedSimpArgs false

def sleuthlaw0_SameNodes.l0 : Nat → List (S57) → List (S57) → Int → Option (Bool)
 | 0, _, _, _ => none
 | k + 1, x0, x1, x5 => if x5 < (x0.length : Int) then (if 0 ≤ x5 then (if x5 < (x1.length : Int) then ((sleuthlaw0_SameNode.f k ((rd_T57 x0 x5).f0) ((rd_T57 x0 x5).f1) ((rd_T57 x0 x5).f2) ((rd_T57 x0 x5).f3) ((rd_T57 x1 x5).f0) ((rd_T57 x1 x5).f1) ((rd_T57 x1 x5).f2) ((rd_T57 x1 x5).f3)).bind fun t297 => (if t297 = true then (sleuthlaw0_SameNodes.l0 k x0 x1 (wrap64 (x5 + 1))) else (some false))) else (none)) else (none)) else (some true)
def sleuthlaw0_SameNodes.f (k : Nat) (l0 : List (S57)) (l1 : List (S57)) : Option (Bool) := if (l0.length : Int) = (l1.length : Int) then (sleuthlaw0_SameNodes.l0 k l0 l1 0) else (some false)
def sleuthlaw0_SameNodes.T6 : Bool × List (List Nat × List Nat) := (true, [([], []), ([], []), ([0, 1], [0, 1]), ([2], [2]), ([], []), ([], []), ([4, 5], [4, 5]), ([6], [6]), ([3, 7], [3, 7]), ([8], [8])])
def sleuthlaw0_SameNodes.B6 : List Nat := [0, 0, 3, 7, 0, 0, 48, 112, 255, 511]
theorem sleuthlaw0_SameNodes.tab6 : rtab .any (opsOf Tryz.f19 6) = sleuthlaw0_SameNodes.T6 := by kernel_rfl
theorem sleuthlaw0_SameNodes.bits6 : waitsOk sleuthlaw0_SameNodes.T6.2 sleuthlaw0_SameNodes.B6 = true := by kernel_rfl
theorem sleuthlaw0_SameNodes.calls (k : Nat) (A0 : Option Addr) (c0 : Nat) (l0 : List (S57)) (A1 : Option Addr) (c1 : Nat) (l1 : List (S57)) (r : Bool) (w : World) (hr0 : Kd.C k57 w A0 l0.length l0) (hc0 : l0.length ≤ c0) (hr1 : Kd.C k57 w A1 l1.length l1) (hc1 : l1.length ≤ c1) (h : sleuthlaw0_SameNodes.f k l0 l1 = some r) :
 Calls Tryz.prog 19 #[.slice A0 l0.length c0, .slice A1 l1.length c1] w fun e w' => e = .returned (.bool r) ∧ Below w.heap.size w w' := by
 have hu57 := Tryz.underlying57
 have HR0 := a_ hr0
 have HC0 := a_ hc0
 clear hr0 hc0
 have HR1 := a_ hr1
 have HC1 := a_ hc1
 clear hr1 hc1
 have HB := a_ (Below.refl w.heap.size w)
 have H := h; unfold sleuthlaw0_SameNodes.f at H
 clear h
 by_cases c3 : (l0.length : Int) = (l1.length : Int)
 case neg =>
  rw [if_neg c3] at H
  have c3b0 : ((l0.length : Int) == (l1.length : Int)) = false := beq_eq_false_iff_ne.mpr c3
  have c3b1 : ((l0.length : Int) != (l1.length : Int)) = true := bne_iff_ne.mpr c3
  have c3b2 : (l0.length == l1.length) = false := by first | simpa using c3 | (simp at c3 ⊢; omega)
  obtain rfl := Option.some.inj H
  go_enter Tryz.func19, Tryz.ntmps19
  go_wp2
  go_ret
  exact ⟨hV_, hC_⟩

 rw [if_pos c3] at H
 have c3b0 : ((l0.length : Int) == (l1.length : Int)) = true := beq_iff_eq.mpr c3
 have c3b1 : ((l0.length : Int) != (l1.length : Int)) = false := bne_eq_false_iff_eq.mpr c3
 have c3b2 : (l0.length == l1.length) = true := by first | simpa using c3 | (simp at c3 ⊢; omega)
 clear c3
 have H' := a_ H
 clear H
 go_enter Tryz.func19, Tryz.ntmps19
 go_wp2
 go_loopg [5] k (fun kq v5 w' => ∃ (x0 : Int), v5 = .int .i64 x0 ∧ Aside0 (sleuthlaw0_SameNodes.l0 kq l0 l1 x0 = some r) ∧ Aside0 (kq ≤ k) ∧ Aside0 (Below w.heap.size w w'))
 case atStart => exact ⟨(0), hW_, H', ⟨Nat.le_refl _⟩, ⟨hC_⟩⟩
 case round =>
  clear H'
  try clear c1
  try clear p2
  try clear c3
  try clear c3b0
  try clear c3b1
  try clear c3b2
  obtain ⟨x0, rfl, HA, HK1, HB⟩ := hrel
  cases gk with
  | zero => exact absurd HA.out (by simp [sleuthlaw0_SameNodes.l0])
  | succ k1 =>
   have H := HA.out
   clear HA
   simp only [sleuthlaw0_SameNodes.l0] at H
   by_cases c4 : x0 < (l0.length : Int)
   case neg =>
    rw [if_neg c4] at H
    have c4b0 : decide (x0 < (l0.length : Int)) = false := decide_eq_false c4
    clear c4
    obtain rfl := Option.some.inj H
    go_wp2
    go_ret
    exact ⟨hV_, hC_⟩
   rw [if_pos c4] at H
   have c4b0 : decide (x0 < (l0.length : Int)) = true := decide_eq_true c4
   clear c4
   replace H := ifI_ H; obtain ⟨c5, H⟩ := H
   have c5b0 : decide (0 ≤ x0) = true := decide_eq_true c5
   clear c5
   replace H := ifI_ H; obtain ⟨c6, H⟩ := H
   have c6b0 : decide (x0 < (l1.length : Int)) = true := decide_eq_true c6
   clear c6
   replace H := Option.bind_eq_some_iff.mp H
   obtain ⟨t0, A70, H⟩ := H
   try dsimp only at H
   have A7 := a_ A70
   clear A70
   by_cases c8 : t0 = true
   case neg =>
    replace c8 := Bool.eq_false_iff.mpr c8
    subst c8
    rw [if_neg (show ¬ (false = true) by decide)] at H
    obtain rfl := Option.some.inj H
    try go_wp2
    replace HB := a_ (below_drew1 HB.out)
    have p295 : 0 ≤ (x0 : Int) := of_decide_eq_true hA_
    have q295 : x0 < (l0.length : Int) := of_decide_eq_true hA_
    obtain ⟨d0, A295_2, c295_2, e295, h0, h1, h2, h3, hl295_2, hi295_2⟩ := at_T57 HR0.out x0 p295 q295
    have hw295_3 := h3
    have hw295_2 := h2
    have hw295_1 := h1
    have hw295_0 := h0
    cases e295
    replace h0 := cl_ HB.out h0
    replace h1 := cl_ HB.out h1
    replace h2 := cl_ HB.out h2
    replace h3 := cl_ HB.out h3
    have HR295_2 := a_ hi295_2
    have HC295_2 := a_ hl295_2
    clear hi295_2 hl295_2
    replace p295 := eq_true p295
    replace q295 := eq_true q295
    have p296 : 0 ≤ (x0 : Int) := of_decide_eq_true hA_
    have q296 : x0 < (l1.length : Int) := of_decide_eq_true hA_
    obtain ⟨d1, A296_2, c296_2, e296, h4, h5, h6, h7, hl296_2, hi296_2⟩ := at_T57 HR1.out x0 p296 q296
    have hw296_3 := h7
    have hw296_2 := h6
    have hw296_1 := h5
    have hw296_0 := h4
    cases e296
    replace h4 := cl_ HB.out h4
    replace h5 := cl_ HB.out h5
    replace h6 := cl_ HB.out h6
    replace h7 := cl_ HB.out h7
    have HR296_2 := a_ hi296_2
    have HC296_2 := a_ hl296_2
    clear hi296_2 hl296_2
    replace p296 := eq_true p296
    replace q296 := eq_true q296
    refine start_ (n := 10) (S := fun w' => w'.cell? (d0.add ((x0).toNat * 4)) = some (.int .i64 ((rd_T57 l0 x0).f0)) ∧ w'.cell? ⟨(d0.add ((x0).toNat * 4)).block, (d0.add ((x0).toNat * 4)).off + 1, none⟩ = some (.int .i64 ((rd_T57 l0 x0).f1)) ∧ w'.cell? ⟨(d0.add ((x0).toNat * 4)).block, (d0.add ((x0).toNat * 4)).off + 2, none⟩ = some (.slice A295_2 ((rd_T57 l0 x0).f2).length c295_2) ∧ w'.cell? ⟨(d0.add ((x0).toNat * 4)).block, (d0.add ((x0).toNat * 4)).off + 3, none⟩ = some (.string ((rd_T57 l0 x0).f3)) ∧ w'.cell? (d1.add ((x0).toNat * 4)) = some (.int .i64 ((rd_T57 l1 x0).f0)) ∧ w'.cell? ⟨(d1.add ((x0).toNat * 4)).block, (d1.add ((x0).toNat * 4)).off + 1, none⟩ = some (.int .i64 ((rd_T57 l1 x0).f1)) ∧ w'.cell? ⟨(d1.add ((x0).toNat * 4)).block, (d1.add ((x0).toNat * 4)).off + 2, none⟩ = some (.slice A296_2 ((rd_T57 l1 x0).f2).length c296_2) ∧ w'.cell? ⟨(d1.add ((x0).toNat * 4)).block, (d1.add ((x0).toNat * 4)).off + 3, none⟩ = some (.string ((rd_T57 l1 x0).f3))) (ds := []) #[false, false, false, false, false, false, false, false, false, false] (by kernel_rfl) rfl rfl ⟨(cl_ HB.out hw295_0), (cl_ HB.out hw295_1), (cl_ HB.out hw295_2), (cl_ HB.out hw295_3), (cl_ HB.out hw296_0), (cl_ HB.out hw296_1), (cl_ HB.out hw296_2), (cl_ HB.out hw296_3)⟩ (fun hHeld => ?_); refine with_tabW sleuthlaw0_SameNodes.tab6 sleuthlaw0_SameNodes.bits6 (fun HT_ HW_ => ?_)
    generalize wr.drew = w0 at HB HR295_2 HR296_2 h0 h1 h2 h3 h4 h5 h6 h7 hHeld ⊢
    refine pB_ 0 17 HT_.out ?_
    refine pB_ 1 18 HT_.out ?_
    refine pB_ 2 19 HT_.out ?_
    refine pB_ 4 21 HT_.out ?_
    refine pB_ 5 22 HT_.out ?_
    refine pB_ 6 23 HT_.out ?_
    refine tB_ 3 20 HT_.out HW_.out hHeld ?_
    refine tB_ 7 24 HT_.out HW_.out hHeld ?_
    refine one_ (i := 8) (N := some 25) #[true, true, true, true, true, true, true, true, true, false] rfl rfl (one_of HT_.out (by kernel_rfl)) (by decide) (fun K hK => ?_)
    refine goes_ Tryz.func34 (by kernel_rfl) rfl #[.agg #[.int .i64 ((rd_T57 l0 x0).f0), .int .i64 ((rd_T57 l0 x0).f1), .slice A295_2 ((rd_T57 l0 x0).f2).length c295_2, .string ((rd_T57 l0 x0).f3)], .agg #[.int .i64 ((rd_T57 l1 x0).f0), .int .i64 ((rd_T57 l1 x0).f1), .slice A296_2 ((rd_T57 l1 x0).f2).length c296_2, .string ((rd_T57 l1 x0).f3)]] (by rfl) rfl rfl hL_ ?_
    with_reducible refine (sleuthlaw0_SameNode.calls k1 ((rd_T57 l0 x0).f0) ((rd_T57 l0 x0).f1) _ _ ((rd_T57 l0 x0).f2) ((rd_T57 l0 x0).f3) ((rd_T57 l1 x0).f0) ((rd_T57 l1 x0).f1) _ _ ((rd_T57 l1 x0).f2) ((rd_T57 l1 x0).f3) false _ ?s1 ?s2 ?s3 ?s4 A7.out).mono ?_
    (case s1 => exact cB_ HR295_2.out)
    (case s2 => exact HC295_2.out)
    (case s3 => exact cB_ HR296_2.out)
    (case s4 => exact HC296_2.out)
    rintro e w1 ⟨rfl, hb⟩
    refine ⟨_, rfl, ?_⟩
    replace HB := a_ (below_step hB_ hb)
    (try clear hb)
    (try clear hb2)
    (try clear hk)
    (try clear hi)
    refine hK.out _ _ ⟨(cl_ HB.out hw295_0), (cl_ HB.out hw295_1), (cl_ HB.out hw295_2), (cl_ HB.out hw295_3), (cl_ HB.out hw296_0), (cl_ HB.out hw296_1), (cl_ HB.out hw296_2), (cl_ HB.out hw296_3)⟩ (fun hHeld => ?_)
    clear hK K
    refine norm_ (a' := ?_) ?_ ?_
    rotate_left
    · show Act.put _ (some 25) _ = _
      simp only [Act.put, List.setIfInBounds_toArray, List.set_cons_zero, List.set_cons_succ, i64_w, i32_w]
      rfl
    refine pB_ 9 26 HT_.out ?_
    refine done_ (done_of HT_.out (by kernel_rfl)) ?_
    try go_wp2
    go_ret
    exact ⟨hV_, hC_⟩
   subst c8
   rw [if_pos rfl] at H
   have H' := a_ H
   clear H
   try go_wp2
   replace HB := a_ (below_drew1 HB.out)
   have p295 : 0 ≤ (x0 : Int) := of_decide_eq_true hA_
   have q295 : x0 < (l0.length : Int) := of_decide_eq_true hA_
   obtain ⟨d0, A295_2, c295_2, e295, h0, h1, h2, h3, hl295_2, hi295_2⟩ := at_T57 HR0.out x0 p295 q295
   have hw295_3 := h3
   have hw295_2 := h2
   have hw295_1 := h1
   have hw295_0 := h0
   cases e295
   replace h0 := cl_ HB.out h0
   replace h1 := cl_ HB.out h1
   replace h2 := cl_ HB.out h2
   replace h3 := cl_ HB.out h3
   have HR295_2 := a_ hi295_2
   have HC295_2 := a_ hl295_2
   clear hi295_2 hl295_2
   replace p295 := eq_true p295
   replace q295 := eq_true q295
   have p296 : 0 ≤ (x0 : Int) := of_decide_eq_true hA_
   have q296 : x0 < (l1.length : Int) := of_decide_eq_true hA_
   obtain ⟨d1, A296_2, c296_2, e296, h4, h5, h6, h7, hl296_2, hi296_2⟩ := at_T57 HR1.out x0 p296 q296
   have hw296_3 := h7
   have hw296_2 := h6
   have hw296_1 := h5
   have hw296_0 := h4
   cases e296
   replace h4 := cl_ HB.out h4
   replace h5 := cl_ HB.out h5
   replace h6 := cl_ HB.out h6
   replace h7 := cl_ HB.out h7
   have HR296_2 := a_ hi296_2
   have HC296_2 := a_ hl296_2
   clear hi296_2 hl296_2
   replace p296 := eq_true p296
   replace q296 := eq_true q296
   refine start_ (n := 10) (S := fun w' => w'.cell? (d0.add ((x0).toNat * 4)) = some (.int .i64 ((rd_T57 l0 x0).f0)) ∧ w'.cell? ⟨(d0.add ((x0).toNat * 4)).block, (d0.add ((x0).toNat * 4)).off + 1, none⟩ = some (.int .i64 ((rd_T57 l0 x0).f1)) ∧ w'.cell? ⟨(d0.add ((x0).toNat * 4)).block, (d0.add ((x0).toNat * 4)).off + 2, none⟩ = some (.slice A295_2 ((rd_T57 l0 x0).f2).length c295_2) ∧ w'.cell? ⟨(d0.add ((x0).toNat * 4)).block, (d0.add ((x0).toNat * 4)).off + 3, none⟩ = some (.string ((rd_T57 l0 x0).f3)) ∧ w'.cell? (d1.add ((x0).toNat * 4)) = some (.int .i64 ((rd_T57 l1 x0).f0)) ∧ w'.cell? ⟨(d1.add ((x0).toNat * 4)).block, (d1.add ((x0).toNat * 4)).off + 1, none⟩ = some (.int .i64 ((rd_T57 l1 x0).f1)) ∧ w'.cell? ⟨(d1.add ((x0).toNat * 4)).block, (d1.add ((x0).toNat * 4)).off + 2, none⟩ = some (.slice A296_2 ((rd_T57 l1 x0).f2).length c296_2) ∧ w'.cell? ⟨(d1.add ((x0).toNat * 4)).block, (d1.add ((x0).toNat * 4)).off + 3, none⟩ = some (.string ((rd_T57 l1 x0).f3))) (ds := []) #[false, false, false, false, false, false, false, false, false, false] (by kernel_rfl) rfl rfl ⟨(cl_ HB.out hw295_0), (cl_ HB.out hw295_1), (cl_ HB.out hw295_2), (cl_ HB.out hw295_3), (cl_ HB.out hw296_0), (cl_ HB.out hw296_1), (cl_ HB.out hw296_2), (cl_ HB.out hw296_3)⟩ (fun hHeld => ?_); refine with_tabW sleuthlaw0_SameNodes.tab6 sleuthlaw0_SameNodes.bits6 (fun HT_ HW_ => ?_)
   generalize wr.drew = w9 at HB HR295_2 HR296_2 h0 h1 h2 h3 h4 h5 h6 h7 hHeld ⊢
   refine pB_ 0 17 HT_.out ?_
   refine pB_ 1 18 HT_.out ?_
   refine pB_ 2 19 HT_.out ?_
   refine pB_ 4 21 HT_.out ?_
   refine pB_ 5 22 HT_.out ?_
   refine pB_ 6 23 HT_.out ?_
   refine tB_ 3 20 HT_.out HW_.out hHeld ?_
   refine tB_ 7 24 HT_.out HW_.out hHeld ?_
   refine one_ (i := 8) (N := some 25) #[true, true, true, true, true, true, true, true, true, false] rfl rfl (one_of HT_.out (by kernel_rfl)) (by decide) (fun K hK => ?_)
   refine goes_ Tryz.func34 (by kernel_rfl) rfl #[.agg #[.int .i64 ((rd_T57 l0 x0).f0), .int .i64 ((rd_T57 l0 x0).f1), .slice A295_2 ((rd_T57 l0 x0).f2).length c295_2, .string ((rd_T57 l0 x0).f3)], .agg #[.int .i64 ((rd_T57 l1 x0).f0), .int .i64 ((rd_T57 l1 x0).f1), .slice A296_2 ((rd_T57 l1 x0).f2).length c296_2, .string ((rd_T57 l1 x0).f3)]] (by rfl) rfl rfl hL_ ?_
   with_reducible refine (sleuthlaw0_SameNode.calls k1 ((rd_T57 l0 x0).f0) ((rd_T57 l0 x0).f1) _ _ ((rd_T57 l0 x0).f2) ((rd_T57 l0 x0).f3) ((rd_T57 l1 x0).f0) ((rd_T57 l1 x0).f1) _ _ ((rd_T57 l1 x0).f2) ((rd_T57 l1 x0).f3) true _ ?s1 ?s2 ?s3 ?s4 A7.out).mono ?_
   (case s1 => exact cB_ HR295_2.out)
   (case s2 => exact HC295_2.out)
   (case s3 => exact cB_ HR296_2.out)
   (case s4 => exact HC296_2.out)
   rintro e w2 ⟨rfl, hb⟩
   refine ⟨_, rfl, ?_⟩
   replace HB := a_ (below_step hB_ hb)
   (try clear hb)
   (try clear hb2)
   (try clear hk)
   (try clear hi)
   refine hK.out _ _ ⟨(cl_ HB.out hw295_0), (cl_ HB.out hw295_1), (cl_ HB.out hw295_2), (cl_ HB.out hw295_3), (cl_ HB.out hw296_0), (cl_ HB.out hw296_1), (cl_ HB.out hw296_2), (cl_ HB.out hw296_3)⟩ (fun hHeld => ?_)
   clear hK K
   refine norm_ (a' := ?_) ?_ ?_
   rotate_left
   · show Act.put _ (some 25) _ = _
     simp only [Act.put, List.setIfInBounds_toArray, List.set_cons_zero, List.set_cons_succ, i64_w, i32_w]
     rfl
   refine pB_ 9 26 HT_.out ?_
   refine done_ (done_of HT_.out (by kernel_rfl)) ?_
   try go_wp2
   go_roundg k1
   case measure => have := HK1.out; omega
   case rel => exact ⟨(wrap64 (x0 + 1)), hW_, H', ⟨by have := HK1.out; omega⟩, ⟨hC_⟩⟩
end Go.Proofs.YtijamgfpgdiigaaGreatDoor.G
end
section
namespace Go.Proofs.YtijamgfpgdiigaaGreatDoor.G
open Go.RowKit Go.Proofs.YtijamgfpgdiigaaGreatDoorW.PrintWords Go.Proofs.YtijamgfpgdiigaaGreatDoorW.PrintLast Go.Proofs.YtijamgfpgdiigaaGreatDoorW.PrintMore
attribute [local go_sem] max2_int min2_int max_two min_two max_three min_three max_four min_four
set_option linter.unusedVariables false
set_option linter.unusedSimpArgs false
theorem eqA46 (d : Nat) (w : World) (x0 y0 : Int) (x1 y1 : Int) :
 (Op.equalIn (d + 2) 46 (.agg #[.int .i64 x0, .int .i64 x1]) (.agg #[.int .i64 y0, .int .i64 y1])).run Tryz.prog w = .ok (x0 == y0 && (x1 == y1)) w := by
 refine eqA_of Tryz.underlying46 (by kernel_rfl) ?_
 refine eqf_cons (by rfl) (by go_simp; rfl) (by go_simp; rfl) (by go_simp) ?_
 exact eqf_last (by rfl) (by go_simp; rfl) (by go_simp; rfl) (by go_simp)
end Go.Proofs.YtijamgfpgdiigaaGreatDoor.G
end
section
namespace Go.Proofs.YtijamgfpgdiigaaGreatDoor.G
open Go.RowKit Go.Proofs.YtijamgfpgdiigaaGreatDoorW.PrintWords Go.Proofs.YtijamgfpgdiigaaGreatDoorW.PrintLast Go.Proofs.YtijamgfpgdiigaaGreatDoorW.PrintMore
set_option maxHeartbeats 8000000
set_option maxRecDepth 100000
attribute [local go_sem] max2_int min2_int max_two min_two max_three min_three max_four min_four   -- for this text's walks alone
set_option linter.unusedVariables false
set_option linter.unusedSimpArgs false

attribute [local go_sem high] eqA46
def sleuthlaw0_SameAnswers.l0 : Nat → List (S46) → List (S46) → Int → Option (Bool)
 | 0, _, _, _ => none
 | k + 1, x0, x1, x5 => if x5 < (x0.length : Int) then (if 0 ≤ x5 then (if x5 < (x1.length : Int) then (if (!(((rd_T46 x0 x5).f0) == ((rd_T46 x1 x5).f0)) || (!(((rd_T46 x0 x5).f1) == ((rd_T46 x1 x5).f1)))) = true then (some false) else (sleuthlaw0_SameAnswers.l0 k x0 x1 (wrap64 (x5 + 1)))) else (none)) else (none)) else (some true)
def sleuthlaw0_SameAnswers.f (k : Nat) (l0 : List (S46)) (l1 : List (S46)) : Option (Bool) := if (l0.length : Int) = (l1.length : Int) then (sleuthlaw0_SameAnswers.l0 k l0 l1 0) else (some false)
theorem sleuthlaw0_SameAnswers.calls (k : Nat) (A0 : Option Addr) (c0 : Nat) (l0 : List (S46)) (A1 : Option Addr) (c1 : Nat) (l1 : List (S46)) (r : Bool) (w : World) (hr0 : Kd.C k46 w A0 l0.length l0) (hc0 : l0.length ≤ c0) (hr1 : Kd.C k46 w A1 l1.length l1) (hc1 : l1.length ≤ c1) (h : sleuthlaw0_SameAnswers.f k l0 l1 = some r) :
 Calls Tryz.prog 20 #[.slice A0 l0.length c0, .slice A1 l1.length c1] w fun e w' => e = .returned (.bool r) ∧ Drawn0 w w' := by
 have hu46 := Tryz.underlying46
 have HR0 := a_ hr0
 have HC0 := a_ hc0
 clear hr0 hc0
 have HR1 := a_ hr1
 have HC1 := a_ hc1
 clear hr1 hc1
 have H := h; unfold sleuthlaw0_SameAnswers.f at H
 clear h
 by_cases c3 : (l0.length : Int) = (l1.length : Int)
 case neg =>
  rw [if_neg c3] at H
  have c3b0 : ((l0.length : Int) == (l1.length : Int)) = false := beq_eq_false_iff_ne.mpr c3
  have c3b1 : ((l0.length : Int) != (l1.length : Int)) = true := bne_iff_ne.mpr c3
  have c3b2 : (l0.length == l1.length) = false := by first | simpa using c3 | (simp at c3 ⊢; omega)
  obtain rfl := Option.some.inj H
  go_enter Tryz.func20, Tryz.ntmps20
  go_wp2
  repeat (go_quiet (fail); try go_wp2)
  go_ret
  exact ⟨by first | rfl | (simp; done) | (simp [*]; done), by repeat (first | exact Drawn0.refl _ | apply Drawn0.step)⟩

 rw [if_pos c3] at H
 have c3b0 : ((l0.length : Int) == (l1.length : Int)) = true := beq_iff_eq.mpr c3
 have c3b1 : ((l0.length : Int) != (l1.length : Int)) = false := bne_eq_false_iff_eq.mpr c3
 have c3b2 : (l0.length == l1.length) = true := by first | simpa using c3 | (simp at c3 ⊢; omega)
 clear c3
 have H' := a_ H
 clear H
 go_enter Tryz.func20, Tryz.ntmps20
 go_wp2
 repeat (go_quiet (fail); try go_wp2)
 go_loopg [5] k (fun kq v5 w' => ∃ (x0 : Int), v5 = .int .i64 x0 ∧ Aside0 (sleuthlaw0_SameAnswers.l0 kq l0 l1 x0 = some r) ∧ Aside0 (kq ≤ k) ∧ Drawn0 w w')
 case atStart => exact ⟨(0), hW_, H', ⟨Nat.le_refl _⟩, by repeat (first | exact Drawn0.refl _ | apply Drawn0.step)⟩
 case round =>
  clear H'
  try clear c1
  try clear c2
  try clear p2
  try clear c3
  try clear c3b0
  try clear c3b1
  try clear c3b2
  obtain ⟨x0, rfl, HA, HK1, ⟨m1, rfl⟩⟩ := hrel
  cases gk with
  | zero => exact absurd HA.out (by simp [sleuthlaw0_SameAnswers.l0])
  | succ k1 =>
   have H := HA.out
   clear HA
   simp only [sleuthlaw0_SameAnswers.l0] at H
   by_cases c4 : x0 < (l0.length : Int)
   case neg =>
    rw [if_neg c4] at H
    have c4b0 : decide (x0 < (l0.length : Int)) = false := decide_eq_false c4
    clear c4
    obtain rfl := Option.some.inj H
    go_wp2
    repeat (go_quiet (fail); try go_wp2)
    go_ret
    exact ⟨by first | rfl | (simp; done) | (simp [*]; done), by repeat (first | exact Drawn0.refl _ | apply Drawn0.step)⟩
   rw [if_pos c4] at H
   have c4b0 : decide (x0 < (l0.length : Int)) = true := decide_eq_true c4
   clear c4
   replace H := ifI_ H; obtain ⟨c5, H⟩ := H
   have c5b0 : decide (0 ≤ x0) = true := decide_eq_true c5
   clear c5
   replace H := ifI_ H; obtain ⟨c6, H⟩ := H
   have c6b0 : decide (x0 < (l1.length : Int)) = true := decide_eq_true c6
   clear c6
   by_cases c7 : (!(((rd_T46 l0 x0).f0) == ((rd_T46 l1 x0).f0)) || (!(((rd_T46 l0 x0).f1) == ((rd_T46 l1 x0).f1)))) = true
   case pos =>
    rw [if_pos c7] at H
    have c7b0 : (!(((rd_T46 l0 x0).f0) == ((rd_T46 l1 x0).f0)) || (!(((rd_T46 l0 x0).f1) == ((rd_T46 l1 x0).f1)))) = true := c7
    clear c7
    obtain rfl := Option.some.inj H
    have p298 : 0 ≤ (x0 : Int) := of_decide_eq_true hA_
    have q298 : x0 < (l0.length : Int) := of_decide_eq_true hA_
    obtain ⟨d0, e298, h0, h1⟩ := at_T46 HR0.out x0 p298 q298
    cases e298
    replace p298 := eq_true p298
    replace q298 := eq_true q298
    have p299 : 0 ≤ (x0 : Int) := of_decide_eq_true hA_
    have q299 : x0 < (l1.length : Int) := of_decide_eq_true hA_
    obtain ⟨d1, e299, h2, h3⟩ := at_T46 HR1.out x0 p299 q299
    cases e299
    replace p299 := eq_true p299
    replace q299 := eq_true q299
    go_wp2
    repeat (go_quiet (fail); try go_wp2)
    go_ret
    exact ⟨by first | rfl | (simp; done) | (simp [*]; done), by repeat (first | exact Drawn0.refl _ | apply Drawn0.step)⟩
   rw [if_neg c7] at H
   have c7b0 : (!(((rd_T46 l0 x0).f0) == ((rd_T46 l1 x0).f0)) || (!(((rd_T46 l0 x0).f1) == ((rd_T46 l1 x0).f1)))) = false := by simpa using c7
   clear c7
   have H' := a_ H
   clear H
   have p298 : 0 ≤ (x0 : Int) := of_decide_eq_true hA_
   have q298 : x0 < (l0.length : Int) := of_decide_eq_true hA_
   obtain ⟨d0, e298, h0, h1⟩ := at_T46 HR0.out x0 p298 q298
   cases e298
   replace p298 := eq_true p298
   replace q298 := eq_true q298
   have p299 : 0 ≤ (x0 : Int) := of_decide_eq_true hA_
   have q299 : x0 < (l1.length : Int) := of_decide_eq_true hA_
   obtain ⟨d1, e299, h2, h3⟩ := at_T46 HR1.out x0 p299 q299
   cases e299
   replace p299 := eq_true p299
   replace q299 := eq_true q299
   go_wp2
   repeat (go_quiet (fail); try go_wp2)
   go_roundg k1
   case measure => have := HK1.out; omega
   case rel => exact ⟨(wrap64 (x0 + 1)), hW_, H', ⟨by have := HK1.out; omega⟩, by repeat (first | exact Drawn0.refl _ | apply Drawn0.step)⟩
def sleuthlaw0_SameSession.f (k : Nat) (l0_0 : List (S57)) (a0_1 : Int) (l0_2 : List (S46)) (l1_0 : List (S57)) (a1_1 : Int) (l1_2 : List (S46)) : Option (Bool) := (sleuthlaw0_SameNodes.f k l0_0 l1_0).bind fun t302 => (if t302 = true then (if a0_1 = a1_1 then ((sleuthlaw0_SameAnswers.f k l0_2 l1_2).bind fun t303 => (some t303)) else (some false)) else (some false))
theorem sleuthlaw0_SameSession.calls (k : Nat) (A0_0 : Option Addr) (c0_0 : Nat) (l0_0 : List (S57)) (a0_1 : Int) (A0_2 : Option Addr) (c0_2 : Nat) (l0_2 : List (S46)) (A1_0 : Option Addr) (c1_0 : Nat) (l1_0 : List (S57)) (a1_1 : Int) (A1_2 : Option Addr) (c1_2 : Nat) (l1_2 : List (S46)) (r : Bool) (w : World) (hr0_0 : Kd.C k57 w A0_0 l0_0.length l0_0) (hc0_0 : l0_0.length ≤ c0_0) (hr0_2 : Kd.C k46 w A0_2 l0_2.length l0_2) (hc0_2 : l0_2.length ≤ c0_2) (hr1_0 : Kd.C k57 w A1_0 l1_0.length l1_0) (hc1_0 : l1_0.length ≤ c1_0) (hr1_2 : Kd.C k46 w A1_2 l1_2.length l1_2) (hc1_2 : l1_2.length ≤ c1_2) (h : sleuthlaw0_SameSession.f k l0_0 a0_1 l0_2 l1_0 a1_1 l1_2 = some r) :
 Calls Tryz.prog 7 #[.agg #[.slice A0_0 l0_0.length c0_0, .int .i64 a0_1, .slice A0_2 l0_2.length c0_2], .agg #[.slice A1_0 l1_0.length c1_0, .int .i64 a1_1, .slice A1_2 l1_2.length c1_2]] w fun e w' => e = .returned (.bool r) ∧ Below w.heap.size w w' := by
 have hu25 := Tryz.underlying25
 have HR0_0 := a_ hr0_0
 have HC0_0 := a_ hc0_0
 clear hr0_0 hc0_0
 have HR0_2 := a_ hr0_2
 have HC0_2 := a_ hc0_2
 clear hr0_2 hc0_2
 have HR1_0 := a_ hr1_0
 have HC1_0 := a_ hc1_0
 clear hr1_0 hc1_0
 have HR1_2 := a_ hr1_2
 have HC1_2 := a_ hc1_2
 clear hr1_2 hc1_2
 have HB := a_ (Below.refl w.heap.size w)
 have H := h; unfold sleuthlaw0_SameSession.f at H
 clear h
 replace H := Option.bind_eq_some_iff.mp H
 obtain ⟨t0, A30, H⟩ := H
 try dsimp only at H
 have A3 := a_ A30
 clear A30
 by_cases c4 : t0 = true
 case neg =>
  replace c4 := Bool.eq_false_iff.mpr c4
  subst c4
  rw [if_neg (show ¬ (false = true) by decide)] at H
  obtain rfl := Option.some.inj H
  go_enter Tryz.func7, Tryz.ntmps7
  go_wp2_with (first | ((with_reducible refine gate_dst (N := 2) rfl ?_); refine boxE_ 2 #[.slice A0_0 l0_0.length c0_0, .int .i64 a0_1, .slice A0_2 l0_2.length c0_2] 25 ?_; intro g0 hg w0 hbox hb; have B0 := a_ (hbox); have E0 := a_ ((gE_ hg : w.heap.size ≤ g0)); replace HB := a_ (below_step hB_ hb); clear hb hbox hg) | ((with_reducible refine gate_dst (N := 3) rfl ?_); refine boxE_ 3 #[.slice A1_0 l1_0.length c1_0, .int .i64 a1_1, .slice A1_2 l1_2.length c1_2] 25 ?_; intro g1 hg w1 hbox hb; have B1 := a_ (hbox); have E1 := a_ ((gE_ hg : w.heap.size ≤ g1)); replace HB := a_ (below_step hC_ hb); have N0 := a_ ((bL_ B0.out hg : g0 ≠ g1)); have N1 := a_ ((bG_ B0.out hg : g1 ≠ g0)); replace B0 := a_ (bB_ B0.out hb); clear hb hbox hg; have m0 := N0.out; have n0 := N1.out; obtain ⟨z0, z1, z2, f0, f1, f2⟩ := bx3_ B0.out; obtain ⟨z3, z4, z5, f3, f4, f5⟩ := bx3_ B1.out) | ((with_reducible refine gate_callee (f := 19) rfl ?_); refine goesL_ (some 9) rfl rfl Tryz.func19 (by kernel_rfl) rfl #[.slice A0_0 l0_0.length c0_0, .slice A1_0 l1_0.length c1_0] rfl hL_ ?_; (with_reducible refine (sleuthlaw0_SameNodes.calls k _ _ l0_0 _ _ l1_0 false _ ?s1 ?s2 ?s3 ?s4 A3.out).mono ?_); (case s1 => exact cB_ HR0_0.out); (case s2 => exact HC0_0.out); (case s3 => exact cB_ HR1_0.out); (case s4 => exact HC1_0.out); rintro e w2 ⟨rfl, hb⟩; refine ⟨_, rfl, ?_⟩; replace B0 := a_ (bB_ B0.out hb); replace B1 := a_ (bB_ B1.out hb); replace HB := a_ (below_step hC_ hb); (try clear hb); (try clear hb2); (try clear hk); (try clear hi)))
  go_ret
  exact ⟨hV_, hC_⟩

 subst c4
 rw [if_pos rfl] at H
 by_cases c5 : a0_1 = a1_1
 case neg =>
  rw [if_neg c5] at H
  have c5b0 : (a0_1 == a1_1) = false := beq_eq_false_iff_ne.mpr c5
  have c5b1 : (a0_1 != a1_1) = true := bne_iff_ne.mpr c5
  obtain rfl := Option.some.inj H
  go_enter Tryz.func7, Tryz.ntmps7
  go_wp2_with (first | ((with_reducible refine gate_dst (N := 2) rfl ?_); refine boxE_ 2 #[.slice A0_0 l0_0.length c0_0, .int .i64 a0_1, .slice A0_2 l0_2.length c0_2] 25 ?_; intro g0 hg w3 hbox hb; have B0 := a_ (hbox); have E0 := a_ ((gE_ hg : w.heap.size ≤ g0)); replace HB := a_ (below_step hB_ hb); clear hb hbox hg) | ((with_reducible refine gate_dst (N := 3) rfl ?_); refine boxE_ 3 #[.slice A1_0 l1_0.length c1_0, .int .i64 a1_1, .slice A1_2 l1_2.length c1_2] 25 ?_; intro g1 hg w4 hbox hb; have B1 := a_ (hbox); have E1 := a_ ((gE_ hg : w.heap.size ≤ g1)); replace HB := a_ (below_step hC_ hb); have N0 := a_ ((bL_ B0.out hg : g0 ≠ g1)); have N1 := a_ ((bG_ B0.out hg : g1 ≠ g0)); replace B0 := a_ (bB_ B0.out hb); clear hb hbox hg; have m1 := N0.out; have n1 := N1.out; obtain ⟨z6, z7, z8, f6, f7, f8⟩ := bx3_ B0.out; obtain ⟨z9, z10, z11, f9, f10, f11⟩ := bx3_ B1.out) | ((with_reducible refine gate_callee (f := 19) rfl ?_); refine goesL_ (some 9) rfl rfl Tryz.func19 (by kernel_rfl) rfl #[.slice A0_0 l0_0.length c0_0, .slice A1_0 l1_0.length c1_0] rfl hL_ ?_; (with_reducible refine (sleuthlaw0_SameNodes.calls k _ _ l0_0 _ _ l1_0 true _ ?s1 ?s2 ?s3 ?s4 A3.out).mono ?_); (case s1 => exact cB_ HR0_0.out); (case s2 => exact HC0_0.out); (case s3 => exact cB_ HR1_0.out); (case s4 => exact HC1_0.out); rintro e w5 ⟨rfl, hb⟩; refine ⟨_, rfl, ?_⟩; replace B0 := a_ (bB_ B0.out hb); replace B1 := a_ (bB_ B1.out hb); replace HB := a_ (below_step hC_ hb); (try clear hb); (try clear hb2); (try clear hk); (try clear hi); obtain ⟨z12, z13, z14, f12, f13, f14⟩ := bx3_ B0.out; obtain ⟨z15, z16, z17, f15, f16, f17⟩ := bx3_ B1.out))
  go_ret
  exact ⟨hV_, hC_⟩
 rw [if_pos c5] at H
 have c5b0 : (a0_1 == a1_1) = true := beq_iff_eq.mpr c5
 have c5b1 : (a0_1 != a1_1) = false := bne_eq_false_iff_eq.mpr c5
 clear c5
 replace H := Option.bind_eq_some_iff.mp H
 obtain ⟨t1, A60, H⟩ := H
 try dsimp only at H
 have A6 := a_ A60
 clear A60
 obtain rfl := Option.some.inj H
 go_enter Tryz.func7, Tryz.ntmps7
 go_wp2_with (first | ((with_reducible refine gate_dst (N := 2) rfl ?_); refine boxE_ 2 #[.slice A0_0 l0_0.length c0_0, .int .i64 a0_1, .slice A0_2 l0_2.length c0_2] 25 ?_; intro g0 hg w7 hbox hb; have B0 := a_ (hbox); have E0 := a_ ((gE_ hg : w.heap.size ≤ g0)); replace HB := a_ (below_step hB_ hb); clear hb hbox hg) | ((with_reducible refine gate_dst (N := 3) rfl ?_); refine boxE_ 3 #[.slice A1_0 l1_0.length c1_0, .int .i64 a1_1, .slice A1_2 l1_2.length c1_2] 25 ?_; intro g1 hg w8 hbox hb; have B1 := a_ (hbox); have E1 := a_ ((gE_ hg : w.heap.size ≤ g1)); replace HB := a_ (below_step hC_ hb); have N0 := a_ ((bL_ B0.out hg : g0 ≠ g1)); have N1 := a_ ((bG_ B0.out hg : g1 ≠ g0)); replace B0 := a_ (bB_ B0.out hb); clear hb hbox hg; have m2 := N0.out; have n2 := N1.out; obtain ⟨z18, z19, z20, f18, f19, f20⟩ := bx3_ B0.out; obtain ⟨z21, z22, z23, f21, f22, f23⟩ := bx3_ B1.out) | ((with_reducible refine gate_callee (f := 19) rfl ?_); refine goesL_ _ rfl rfl Tryz.func19 (by kernel_rfl) rfl #[.slice A0_0 l0_0.length c0_0, .slice A1_0 l1_0.length c1_0] rfl hL_ ?_; (with_reducible refine (sleuthlaw0_SameNodes.calls k _ _ l0_0 _ _ l1_0 true _ ?s1 ?s2 ?s3 ?s4 A3.out).mono ?_); (case s1 => exact cB_ HR0_0.out); (case s2 => exact HC0_0.out); (case s3 => exact cB_ HR1_0.out); (case s4 => exact HC1_0.out); rintro e w6 ⟨rfl, hb⟩; refine ⟨_, rfl, ?_⟩; replace B0 := a_ (bB_ B0.out hb); replace B1 := a_ (bB_ B1.out hb); replace HB := a_ (below_step hC_ hb); (try clear hb); (try clear hb2); (try clear hk); (try clear hi); obtain ⟨z24, z25, z26, f24, f25, f26⟩ := bx3_ B0.out; obtain ⟨z27, z28, z29, f27, f28, f29⟩ := bx3_ B1.out) | (go_at_call 20; (with_reducible refine (sleuthlaw0_SameAnswers.calls k _ _ l0_2 _ _ l1_2 t1 _ ?s1 ?s2 ?s3 ?s4 A6.out).mono ?_); (case s1 => exact cB_ HR0_2.out); (case s2 => exact HC0_2.out); (case s3 => exact cB_ HR1_2.out); (case s4 => exact HC1_2.out); rintro e w' ⟨rfl, ⟨nd, rfl⟩⟩))
 go_ret
 exact ⟨hV_, hC_⟩
def sleuthlaw0_Num.f (a0 : Int) : Option (Int) := some a0
theorem sleuthlaw0_Num.calls (a0 : Int) (r : Int) (w : World) (h : sleuthlaw0_Num.f a0 = some r) :
 Calls Tryz.prog 8 #[.int .i64 a0] w fun e w' => e = .returned (.int .i64 r) ∧ Drawn0 w w' := by
 have H : (some a0) = some r := h
 clear h
 obtain rfl := Option.some.inj H
 go_enter Tryz.func8, Tryz.ntmps8
 go_wp2
 go_ret
 exact ⟨by first | rfl | (simp; done) | (simp [*]; done), by repeat (first | exact Drawn0.refl _ | apply Drawn0.step)⟩

end Go.Proofs.YtijamgfpgdiigaaGreatDoor.G
end
section
namespace Go.Proofs.YtijamgfpgdiigaaGreatDoor.G
open Go.RowKit Go.Proofs.YtijamgfpgdiigaaGreatDoorW.PrintWords Go.Proofs.YtijamgfpgdiigaaGreatDoorW.PrintLast Go.Proofs.YtijamgfpgdiigaaGreatDoorW.PrintMore
set_option linter.unusedVariables false
set_option linter.unusedSimpArgs false
def fineN (l : List Nd) : Prop := l.length * 56 ≤ 140737488351232 ∧ ∀ x ∈ l, (Lit.int .i64 x.f0).wf = true ∧ (Lit.int .i64 x.f1).wf = true ∧ (x.f2.length * 16 ≤ 140737488351232 ∧ ∀ s ∈ x.f2, s.size ≤ 140737488351232) ∧ x.f3.size ≤ 140737488351232
theorem fineN.ok {l : List Nd} (h : fineN l) : okN l := ⟨by have := h.1; omega, fun x hx => by have := (h.2 x hx).2.2.1.1; omega⟩
theorem copy_l0 (ns : List Nd) (hok : okN ns) : ∀ (n i : Nat), i + n = ns.length → Ev (fun k => sleuthlaw0_CopyNodes.l0 k ns (ns.take i) (i : Int)) ns := by
  intro n
  induction n with
  | zero =>
    intro i hi
    refine Ev.step (f := fun _ => some ns) (fun k => ?_) (Ev.now _)
    simp only [sleuthlaw0_CopyNodes.l0]
    rw [if_neg (by omega), List.take_of_length_le (by omega)]
  | succ n ih =>
    intro i hi
    have hlt : i < ns.length := by omega
    have hl := hok.1
    have hw : wrap64 ((i : Int) + 1) = ((i + 1 : Nat) : Int) := by rw [w64 (by omega) (by omega)]; omega
    refine Ev.step (f := fun k => sleuthlaw0_CopyNodes.l0 k ns (ns.take (i + 1)) ((i + 1 : Nat) : Int)) (fun k => ?_) (ih (i + 1) (by omega))
    have hat := hok.at (i : Int)
    simp only [sleuthlaw0_CopyNodes.l0, Option.bind_some, List.nil_append]
    rw [if_pos (by omega), if_pos (by omega), if_pos (show ([] : List ByteArray).length + (rn ns (i : Int)).f2.length < 8796093022208 by rw [List.length_nil]; omega), if_pos (by rw [List.length_take]; omega), hw]
    have : (ns.take i ++ [(⟨(rn ns (i : Int)).f0, (rn ns (i : Int)).f1, (rn ns (i : Int)).f2, (rn ns (i : Int)).f3⟩ : Nd)]) = ns.take (i + 1) := by
      rw [List.take_succ_eq_append_getElem hlt, rn_eq ns i hlt]
    rw [this]
theorem copy_ev (ns : List Nd) (hok : okN ns) : Ev (fun k => sleuthlaw0_CopyNodes.f k ns) ns := copy_l0 ns hok ns.length 0 (by omega)
theorem sameTexts_l0 (a : List ByteArray) (ha : a.length ≤ 9223372036854775806) : ∀ (n i : Nat), i + n = a.length → Ev (fun k => sleuthlaw0_SameTexts.l0 k a a (i : Int)) true := by
  intro n
  induction n with
  | zero =>
    intro i hi
    refine Ev.step (f := fun _ => some true) (fun k => ?_) (Ev.now _)
    rw [sleuthlaw0_SameTexts.l0, if_neg (by omega)]
  | succ n ih =>
    intro i hi
    have hw : wrap64 ((i : Int) + 1) = ((i + 1 : Nat) : Int) := by rw [w64 (by omega) (by omega)]; omega
    refine Ev.step (f := fun k => sleuthlaw0_SameTexts.l0 k a a ((i + 1 : Nat) : Int)) (fun k => ?_) (ih (i + 1) (by omega))
    rw [sleuthlaw0_SameTexts.l0, if_pos (by omega), if_pos (by omega), if_pos (by omega), if_pos rfl, hw]
theorem sameTexts_ev (a : List ByteArray) (ha : a.length ≤ 9223372036854775806) : Ev (fun k => sleuthlaw0_SameTexts.f k a a) true := by
  unfold sleuthlaw0_SameTexts.f
  simp only [if_pos]
  exact sameTexts_l0 a ha a.length 0 (by omega)
theorem sameNode_ev (x : Nd) (hx : x.f2.length ≤ 9223372036854775806) : Ev (fun k => sleuthlaw0_SameNode.f k x.f0 x.f1 x.f2 x.f3 x.f0 x.f1 x.f2 x.f3) true := by
  unfold sleuthlaw0_SameNode.f
  simp only [if_pos]
  refine Ev.bind (sameTexts_ev _ hx) ?_
  simp only [if_pos, beq_self_eq_true]
  exact Ev.now _
theorem sameNodes_l0 (a : List Nd) (ha : okN a) : ∀ (n i : Nat), i + n = a.length → Ev (fun k => sleuthlaw0_SameNodes.l0 k a a (i : Int)) true := by
  intro n
  have hl := ha.1
  induction n with
  | zero =>
    intro i hi
    refine Ev.step (f := fun _ => some true) (fun k => ?_) (Ev.now _)
    simp only [sleuthlaw0_SameNodes.l0]
    rw [if_neg (by omega)]
  | succ n ih =>
    intro i hi
    have hw : wrap64 ((i : Int) + 1) = ((i + 1 : Nat) : Int) := by rw [w64 (by omega) (by omega)]; omega
    refine Ev.step (f := fun k => (sleuthlaw0_SameNode.f k (rn a (i : Int)).f0 (rn a (i : Int)).f1 (rn a (i : Int)).f2 (rn a (i : Int)).f3 (rn a (i : Int)).f0 (rn a (i : Int)).f1 (rn a (i : Int)).f2 (rn a (i : Int)).f3).bind fun t => if t = true then sleuthlaw0_SameNodes.l0 k a a ((i + 1 : Nat) : Int) else some false) (fun k => ?_) ?_
    · rw [sleuthlaw0_SameNodes.l0, if_pos (by omega), if_pos (by omega), if_pos (by omega), hw]
    · refine Ev.bind (sameNode_ev (rn a (i : Int)) (Nat.le_trans (ha.at _) (by omega))) ?_
      simp only [if_pos]
      exact ih (i + 1) (by omega)
theorem sameNodes_ev (a : List Nd) (ha : okN a) : Ev (fun k => sleuthlaw0_SameNodes.f k a a) true := by
  unfold sleuthlaw0_SameNodes.f
  simp only [if_pos]
  exact sameNodes_l0 a ha a.length 0 (by omega)

end Go.Proofs.YtijamgfpgdiigaaGreatDoor.G
end
section
namespace Go.Proofs.YtijamgfpgdiigaaGreatDoor.G
open Go.RowKit Go.Proofs.YtijamgfpgdiigaaGreatDoorW.PrintWords Go.Proofs.YtijamgfpgdiigaaGreatDoorW.PrintLast Go.Proofs.YtijamgfpgdiigaaGreatDoorW.PrintMore
set_option maxHeartbeats 8000000
set_option maxRecDepth 100000
attribute [local go_sem] max2_int min2_int max_two min_two max_three min_three max_four min_four   -- for this text's walks alone
set_option linter.unusedVariables false
set_option linter.unusedSimpArgs false

/-- a node's kids among those ahead of place i -/
def kidsTo (ns : List S57) (a : Int) : Nat → List Int
 | 0 => []
 | i + 1 => if a < (i : Int) ∧ (rd_T57 ns (i : Int)).f1 = a then kidsTo ns a i ++ [(i : Int)] else kidsTo ns a i
theorem kidsTo_pre (ns : List S57) (a : Int) : ∀ {i j : Nat}, i ≤ j → kidsTo ns a i <+: kidsTo ns a j := by
 intro i j h
 induction h with
 | refl => exact List.prefix_refl _
 | step _ ih =>
  rw [kidsTo]
  split
  · exact ih.trans (List.prefix_append _ _)
  · exact ih
theorem kidsTo_none (ns : List S57) (a : Int) : ∀ (i : Nat), (i : Int) ≤ a + 1 → kidsTo ns a i = []
 | 0, _ => rfl
 | i + 1, h => by rw [kidsTo, if_neg (by omega), kidsTo_none ns a i (by omega)]
theorem kidsTo_len (ns : List S57) (a : Int) : ∀ (i : Nat), (kidsTo ns a i).length ≤ i
 | 0 => Nat.le_refl _
 | i + 1 => by
  have := kidsTo_len ns a i
  rw [kidsTo]
  split <;> simp <;> omega

section
attribute [local go_sem] Oper.semAt_some
theorem tree_Below_1.in_ (n : Nat) (hn : 1 ≤ n) (l Bn Ba n₁ N : Nat) (A0 : Option Addr) (c0 : Nat) (l0 : List S57) (a1 : Int) (ha0 : 0 ≤ a1) (ha1 : a1 < (l0.length : Int)) (hlen : l0.length ≤ 9223372036854775806) (w : World) (hC : Kd.C k57 w A0 l0.length l0)
 (hN : ∀ i, i < l0.length → (kidsTo l0 a1 i).length < N) (J Jx : List Int → World → Prop) (hJd : ∀ s W n, J s W → J s (W.drewN n))
 (hY : ∀ pre x W, J pre W → pre.length < N → (0 ≤ x ∧ x < (l0.length : Int)) → YieldAt Fence.wide (n - 1) Tryz.prog l #[.int .i64 x] W fun e W' =>
  (e = .returned (.bool true) ∧ J (pre ++ [x]) W' ∧ Below n₁ W W') ∨ (e = .returned (.bool false) ∧ Jx (pre ++ [x]) W'))
 (W : World) (hB : Below w.heap.size w W) (hw : w.heap.size ≤ n₁) (hBn : W.cell? ⟨Bn, 0, none⟩ = some (.slice A0 l0.length c0)) (hBa : W.cell? ⟨Ba, 0, none⟩ = some (.int .i64 a1)) (hbn : Bn < n₁) (hba : Ba < n₁) (h0 : J [] W) :
 CallsIn Fence.wide n Tryz.prog 61 #[.func (.yield l) #[] #[], .pointer (some ⟨Ba, 0, none⟩), .pointer (some ⟨Bn, 0, none⟩)] W fun e W' => (∃ v, e = .returned v) ∧
  ((∃ ys, ys = kidsTo l0 a1 l0.length ∧ J ys W') ∨ (∃ pre, pre <+: kidsTo l0 a1 l0.length ∧ Jx pre W')) := by
 refine callsIn_of_wp Tryz.func61 rfl trivial ?_ rfl
 simp only [Tryz.ntmps61, List.size_toArray, List.length_cons, List.length_nil, Nat.reduceAdd, Nat.reduceSub, Array.replicate_succ, Array.replicate_zero, List.push_toArray, List.append_toArray, List.nil_append, List.cons_append]
 gi_wp2
 gi_loopw [4] (fun i wr => ∃ x : Int, i = .int .i64 x ∧ Aside0 (a1 < x ∧ x ≤ (l0.length : Int)) ∧ Aside0 (J (kidsTo l0 a1 x.toNat) wr ∧ Below n₁ W wr))
  (fun i _ => l0.length - (intOf i).toNat)
 case atStart => exact ⟨a1 + 1, by first | rfl | (congr 1; omega) | (simp; omega), ⟨by omega, by omega⟩, ⟨by rw [kidsTo_none _ _ _ (by omega)]; exact h0, Below.refl _ _⟩⟩
 case round =>
  obtain ⟨x, rfl, HX, HJ⟩ := hrel
  have hcn := (HJ.out.2.cell (p := ⟨Bn, 0, none⟩) hbn).trans hBn
  have hca := (HJ.out.2.cell (p := ⟨Ba, 0, none⟩) hba).trans hBa
  by_cases hlt : x < (l0.length : Int)
  case neg =>
   have hltb := decide_eq_false hlt
   have hxl : x.toNat = l0.length := by have := HX.out; omega
   have HX2 := a_ hxl
   clear hxl hlt
   gi_wp2
   go_end0
   exact ⟨⟨_, rfl⟩, .inl ⟨_, rfl, by rw [← HX2.out]; exact HJ.out.1⟩⟩
  have hx0 : 0 ≤ x := by have := HX.out; omega
  obtain ⟨ad, A2, c2, e0, g0, g1, g2, g3, hl2, hi2⟩ := at_T57 hC x hx0 hlt
  cases e0
  have hbw : Below w.heap.size w wr := hB.trans (HJ.out.2.mono hw)
  have hp := (hbw.cell (World.block_lt_of_cell? w _ g1)).trans g1
  clear g0 g1 g2 g3 hl2 hi2
  have hxt : (x + 1).toNat = x.toNat + 1 := by omega
  have hxe : ((x.toNat : Nat) : Int) = x := by omega
  have hw1 : IntKind.i64.wrap (x + 1) = x + 1 := IntWalk.i64_in _ (by omega)
  have hw2 := a_ hw1
  clear hw1
  have hlt0 := a_ (And.intro hlt (And.intro hxt hxe))
  clear hxt hxe
  have hltb := decide_eq_true hlt
  replace hlt := eq_true hlt
  replace hx0 := eq_true hx0
  have hmix : Tryz.prog.follows .mixedOrders = true := by kernel_rfl
  by_cases hpar : (rd_T57 l0 x).f1 = a1
  case neg =>
   have hparb : ((rd_T57 l0 x).f1 == a1) = false := beq_eq_false_iff_ne.2 hpar
   have hkid : kidsTo l0 a1 (x.toNat + 1) = kidsTo l0 a1 x.toNat := by rw [kidsTo, hlt0.out.2.2, if_neg (fun h => hpar h.2)]
   have HK := a_ hkid
   clear hkid hpar
   have HY := a_ (And.intro hY hJd)
   clear hY hJd
   clear hN hBa hBn hC h0
   gi_wp2
   refine wpIn_mono (Q := fun e a w' => e = .normal ∧ ∃ (t7 t8 t9 t10 t11 t12 t13 t14 t15 t16 t17 t18 t19 t20 t21 t22 t23 t24 : Value), a = { tmps := #[.func (.yield l) #[] #[], .pointer (some ⟨Ba, 0, none⟩), .pointer (some ⟨Bn, 0, none⟩), undef, .int .i64 x, .int .i64 a1, .int .i64 (a1 + 1), t7, t8, t9, t10, t11, t12, t13, t14, t15, t16, t17, t18, t19, t20, t21, t22, t23, t24, .bool false], defers := [] } ∧ ∃ nq, w' = wr.drewN nq) ?reg ?post
   case reg =>
    clear HY HK HX HJ hlt0 hw2 hbw hB hw
    refine wpIn_region_quiet_lit rfl hmix (by kernel_rfl) ?_
    iterate 10 (quiet_step_in (fail))
    refine BigFrame.wpQuietIn_skip (fun _ _ _ _ => trivial) (by first | rfl | kernel_rfl | simp [Region.wanted, yielded]) ?_
    simp only [Act.put, List.setIfInBounds_toArray, List.set_cons_succ, List.set_cons_zero]
    iterate 2 (quiet_step_in (fail))
    refine wpQuietIn_nil ?_
    intro _ hw'
    obtain ⟨nq, hw''⟩ := hw'
    subst hw''
    exact ⟨trivial, _, _, _, _, _, _, _, _, _, _, _, _, _, _, _, _, _, _, rfl, _, rfl⟩
   case post =>
    rintro e a W3 ⟨rfl, t7, t8, t9, t10, t11, t12, t13, t14, t15, t16, t17, t18, t19, t20, t21, t22, t23, t24, rfl, nq, rfl⟩
    clear hparb hp
    gi_wp2
    refine ⟨⟨x + 1, by rw [show wrap64 (x + 1) = x + 1 from by have := HX.out; have := hlt0.out.1; unfold wrap64; omega], ⟨by have := HX.out; omega, by have := hlt0.out.1; omega⟩, ⟨by rw [hlt0.out.2.1, HK.out]; exact HY.out.2 _ _ nq HJ.out.1, below_dn HJ.out.2 nq⟩⟩, ?_⟩
    rw [show wrap64 (x + 1) = x + 1 from by have := HX.out; have := hlt0.out.1; unfold wrap64; omega]
    have := HX.out
    have := hlt0.out.1
    simp only [intOf]
    omega
  have hparb : ((rd_T57 l0 x).f1 == a1) = true := beq_iff_eq.2 hpar
  have hkid : kidsTo l0 a1 (x.toNat + 1) = kidsTo l0 a1 x.toNat ++ [x] := by rw [kidsTo, hlt0.out.2.2, if_pos ⟨HX.out.1, hpar⟩]
  have HK := a_ hkid
  clear hkid hpar
  have HY := a_ (fun nq => hY _ x (wr.drewN nq) (hJd _ _ nq HJ.out.1) (hN x.toNat (by have := hlt0.out.1; omega)) ⟨by have := HX.out; omega, hlt0.out.1⟩)
  clear hY hJd hN hBa hBn hC h0
  gi_wp2
  refine wpIn_mono (Q := fun e a w' => e = .normal ∧ ∃ (b : Bool) (t7 t8 t9 t10 t11 t12 t13 t14 t15 t16 t17 t18 t19 t20 t21 t22 t23 t24 : Value), a = { tmps := #[.func (.yield l) #[] #[], .pointer (some ⟨Ba, 0, none⟩), .pointer (some ⟨Bn, 0, none⟩), undef, .int .i64 x, .int .i64 a1, .int .i64 (a1 + 1), t7, t8, t9, t10, t11, t12, t13, t14, t15, t16, t17, t18, t19, t20, t21, t22, t23, t24, .bool (!b)], defers := [] } ∧ Aside0 ((b = true ∧ J (kidsTo l0 a1 x.toNat ++ [x]) w' ∧ Below n₁ wr w') ∨ (b = false ∧ Jx (kidsTo l0 a1 x.toNat ++ [x]) w'))) ?reg ?post
  case reg =>
   clear HK HX HJ hlt0 hw2 hbw hB hw
   refine wpIn_region_head 10 rfl hmix (by kernel_rfl) ?_
   simp only [List.take_succ_cons, List.take_zero, List.drop_succ_cons, List.drop_zero]
   iterate 10 (quiet_step_in (fail))
   refine wpQuietIn_nil ?_
   intro _ hw'
   obtain ⟨nq, hw''⟩ := hw'
   subst hw''
   obtain ⟨fn, tmps, assign, body, hy, hR⟩ := HY.out nq
   clear HY
   have HR : RoundIn Fence.wide (n - 1) Tryz.prog l fn tmps assign body (wr.drewN nq) (fun e W' => ∃ b, e = .returned (.bool b) ∧ Aside0 ((b = true ∧ J (kidsTo l0 a1 x.toNat ++ [x]) W' ∧ Below n₁ wr W') ∨ (b = false ∧ Jx (kidsTo l0 a1 x.toNat ++ [x]) W'))) := hR.mono fun e W' hh => by
    rcases hh with ⟨rfl, h1, h2⟩ | ⟨rfl, h1⟩
    · exact ⟨true, rfl, ⟨.inl ⟨rfl, h1, (below_dn (Below.refl _ _) nq).trans h2⟩⟩⟩
    · exact ⟨false, rfl, ⟨.inr ⟨rfl, h1⟩⟩⟩
   clear hR
   gi_wp2
   refine HR.mono ?_
   rintro e W3 ⟨b, rfl, HQ⟩
   gi_wp2
  case post =>
   rintro e a W3 ⟨rfl, b, t7, t8, t9, t10, t11, t12, t13, t14, t15, t16, t17, t18, t19, t20, t21, t22, t23, t24, rfl, HQ⟩
   clear HY hparb hp
   cases b
   · gi_wp2
     refine bodyPost_ret (results_none rfl _ _ _) rfl ?_
     have hq := HQ.out
     simp only [Bool.false_eq_true, false_and, false_or, true_and] at hq
     exact ⟨⟨_, rfl⟩, .inr ⟨_, by rw [← HK.out]; exact kidsTo_pre _ _ (by have := hlt0.out.1; omega), hq⟩⟩
   · have hq := HQ.out
     simp only [Bool.true_eq_false, false_and, or_false, true_and] at hq
     have HQ2 := a_ hq
     clear hq HQ
     gi_wp2
     refine ⟨⟨x + 1, by rw [show wrap64 (x + 1) = x + 1 from by have := HX.out; have := hlt0.out.1; unfold wrap64; omega], ⟨by have := HX.out; omega, by have := hlt0.out.1; omega⟩, ⟨by rw [hlt0.out.2.1, HK.out]; exact HQ2.out.1, HJ.out.2.trans HQ2.out.2⟩⟩, ?_⟩
     rw [show wrap64 (x + 1) = x + 1 from by have := HX.out; have := hlt0.out.1; unfold wrap64; omega]
     have := HX.out
     have := hlt0.out.1
     simp only [intOf]
     omega
/-- tree.Below: two boxes, a function value -/
theorem tree_Below.in_ (n : Nat) (hn : 1 ≤ n) (A0 : Option Addr) (len c0 : Nat) (a1 : Int) (w : World) :
 CallsIn Fence.wide n Tryz.prog 57 #[.slice A0 len c0, .int .i64 a1] w fun e w' => e = .returned (.func (.func 61) #[] #[.pointer (some ⟨w.heap.size + 1, 0, none⟩), .pointer (some ⟨w.heap.size, 0, none⟩)]) ∧ w' = (w.alloc (.cells #[.slice A0 len c0] 22)).alloc (.cells #[.int .i64 a1] 3) := by
 refine callsIn_of_wp Tryz.func57 rfl trivial ?_ rfl
 simp only [Tryz.ntmps57, List.size_toArray, List.length_cons, List.length_nil, Nat.reduceAdd, Nat.reduceSub, Array.replicate_succ, Array.replicate_zero, List.push_toArray, List.append_toArray, List.nil_append, List.cons_append]
 gi_wp2
 go_ret
 exact ⟨rfl, rfl⟩
theorem tree_Below.stops (n : Nat) (hn : 1 ≤ n) (A0 : Option Addr) (c0 : Nat) (l0 : List S57) (a1 : Int) (ha0 : 0 ≤ a1) (ha1 : a1 < (l0.length : Int)) (hlen : l0.length ≤ 9223372036854775806) (w : World) (hC : Kd.C k57 w A0 l0.length l0) (Bn Ba n₁ : Nat) (hn₁ : n₁ ≤ w.heap.size) (hbn : Bn < n₁) (hba : Ba < n₁)
 (hBn : w.cell? ⟨Bn, 0, none⟩ = some (.slice A0 l0.length c0)) (hBa : w.cell? ⟨Ba, 0, none⟩ = some (.int .i64 a1)) (w0 : World) (hw0 : Below w0.heap.size w0 w) (hC0 : Kd.C k57 w0 A0 l0.length l0) (hn0 : w0.heap.size ≤ n₁) :
 SeqStopsK Fence.wide n Tryz.prog 61 #[.pointer (some ⟨Ba, 0, none⟩), .pointer (some ⟨Bn, 0, none⟩)] (fun x : Int => #[Value.int .i64 x]) (Below n₁) (fun ys => ys = kidsTo l0 a1 l0.length) (fun pre => pre <+: kidsTo l0 a1 l0.length) l0.length w := fun l J Jx W hW hJ hJx hY h0 =>
 tree_Below_1.in_ n hn l Bn Ba n₁ l0.length A0 c0 l0 a1 ha0 ha1 hlen w0 hC0 (fun i hi => Nat.lt_of_le_of_lt (kidsTo_len l0 a1 i) hi) J Jx
  (fun s W1 m h => hJ s W1 (W1.drewN m) none h ⟨rfl, rfl, rfl, Nat.le_refl _, fun _ _ _ => rfl⟩ (fun r e => by cases e)) (fun pre x W1 h1 h2 _ => hY pre x W1 h1 h2) W (hw0.trans (hW.mono hw0.size)) hn0 ((hW.cell (p := ⟨Bn, 0, none⟩) (by show Bn < w.heap.size; omega)).trans hBn) ((hW.cell (p := ⟨Ba, 0, none⟩) (by show Ba < w.heap.size; omega)).trans hBa) hbn hba h0
theorem kidsTo_rng (ns : List S57) (a : Int) (x : Int) : ∀ n : Nat, x ∈ kidsTo ns a n → a < x ∧ x < (n : Int) ∧ (rd_T57 ns x).f1 = a
 | 0, h => by rw [kidsTo] at h; cases h
 | n + 1, h => by
  rw [kidsTo] at h
  by_cases c : a < (n : Int) ∧ (rd_T57 ns (n : Int)).f1 = a
  case neg =>
   rw [if_neg c] at h
   have := kidsTo_rng ns a x n h; exact ⟨this.1, by omega, this.2.2⟩
  rw [if_pos c, List.mem_append, List.mem_singleton] at h
  rcases h with h | h
  · have := kidsTo_rng ns a x n h; exact ⟨this.1, by omega, this.2.2⟩
  · subst h; exact ⟨c.1, by omega, c.2⟩
/-- the same of places that are places: a body may look there -/
theorem tree_Below.stopsF (n : Nat) (hn : 1 ≤ n) (A0 : Option Addr) (c0 : Nat) (l0 : List S57) (a1 : Int) (ha0 : 0 ≤ a1) (ha1 : a1 < (l0.length : Int)) (hlen : l0.length ≤ 9223372036854775806) (w : World) (hC : Kd.C k57 w A0 l0.length l0) (Bn Ba n₁ : Nat) (hn₁ : n₁ ≤ w.heap.size) (hbn : Bn < n₁) (hba : Ba < n₁)
 (hBn : w.cell? ⟨Bn, 0, none⟩ = some (.slice A0 l0.length c0)) (hBa : w.cell? ⟨Ba, 0, none⟩ = some (.int .i64 a1)) (w0 : World) (hw0 : Below w0.heap.size w0 w) (hC0 : Kd.C k57 w0 A0 l0.length l0) (hn0 : w0.heap.size ≤ n₁) :
 SeqStopsK Fence.wide n Tryz.prog 61 #[.pointer (some ⟨Ba, 0, none⟩), .pointer (some ⟨Bn, 0, none⟩)] (fun x : {x : Int // 0 ≤ x ∧ x < (l0.length : Int)} => #[Value.int .i64 x.1]) (Below n₁) (fun ys => ys.map (·.1) = kidsTo l0 a1 l0.length) (fun pre => pre.map (·.1) <+: kidsTo l0 a1 l0.length) l0.length w := fun l J Jx W hW hJ hJx hY h0 => by
 refine (tree_Below_1.in_ n hn l Bn Ba n₁ l0.length A0 c0 l0 a1 ha0 ha1 hlen w0 hC0 (fun i hi => Nat.lt_of_le_of_lt (kidsTo_len l0 a1 i) hi) (fun ys W1 => ∃ zs : List {x : Int // 0 ≤ x ∧ x < (l0.length : Int)}, zs.map (·.1) = ys ∧ J zs W1) (fun ys W1 => ∃ zs : List {x : Int // 0 ≤ x ∧ x < (l0.length : Int)}, zs.map (·.1) = ys ∧ Jx zs W1)
  ?_ ?_ W (hw0.trans (hW.mono hw0.size)) hn0 ((hW.cell (p := ⟨Bn, 0, none⟩) (by show Bn < w.heap.size; omega)).trans hBn) ((hW.cell (p := ⟨Ba, 0, none⟩) (by show Ba < w.heap.size; omega)).trans hBa) hbn hba ⟨[], rfl, h0⟩).mono ?_
 · rintro s W1 m ⟨zs, e, h⟩
   exact ⟨zs, e, hJ zs W1 (W1.drewN m) none h ⟨rfl, rfl, rfl, Nat.le_refl _, fun _ _ _ => rfl⟩ (fun r e => by cases e)⟩
 · rintro pre x W1 ⟨zs, e, h⟩ hl hx
   refine (hY zs ⟨x, hx⟩ W1 h (by rw [← e, List.length_map] at hl; exact hl)).mono ?_
   rintro e' W2 (⟨h1, h2, h3⟩ | ⟨h1, h2⟩)
   · exact .inl ⟨h1, ⟨_, by rw [List.map_append, e]; rfl, h2⟩, h3⟩
   · exact .inr ⟨h1, ⟨_, by rw [List.map_append, e]; rfl, h2⟩⟩
 · rintro e' W2 ⟨hv, ⟨ys, hy, zs, e, h⟩ | ⟨pre, hp, zs, e, h⟩⟩
   · exact ⟨hv, .inl ⟨zs, e.trans hy, h⟩⟩
   · exact ⟨hv, .inr ⟨zs, (show zs.map (fun x => x.1) <+: kidsTo l0 a1 l0.length by rw [e]; exact hp), h⟩⟩
end

set_option maxHeartbeats 8000000
set_option maxRecDepth 100000
attribute [local go_sem] max2_int min2_int max_two min_two max_three min_three max_four min_four   -- for this text's walks alone
set_option linter.unusedVariables false
set_option linter.unusedSimpArgs false

/-- the first of a node's kids with a mark -/
def fstK (ns : List S57) (ms : List Int) (a m : Int) : Option Int := (kidsTo ns a ns.length).find? fun k => rd ms k == m
def top_first.f (l0 : List S57) (l1 : List Int) (a2 a3 : Int) : Option (Int × Bool) :=
 if 0 ≤ a2 ∧ a2 < (l0.length : Int) ∧ l0.length ≤ l1.length ∧ l0.length ≤ 512 then (match fstK l0 l1 a2 a3 with | some k => some (k, true) | none => some (0, false)) else none
theorem bx_four {w : World} {a b c d : Value} {s t u v : TypeId} :
 let w4 := (((w.alloc (.cells #[a] s)).alloc (.cells #[b] t)).alloc (.cells #[c] u)).alloc (.cells #[d] v)
 Boxed w4 w.heap.size s a ∧ Boxed w4 (w.heap.size + 1) t b ∧ Boxed w4 (w.heap.size + 1 + 1) u c ∧ Boxed w4 (w.heap.size + 1 + 1 + 1) v d ∧ Below w.heap.size w w4 ∧ w4.heap.size = w.heap.size + 4 := by
 intro w4
 have h1 := (((Boxed.new w s a).alloc (.cells #[b] t)).alloc (.cells #[c] u)).alloc (.cells #[d] v)
 have h2 := ((Boxed.new (w.alloc (.cells #[a] s)) t b).alloc (.cells #[c] u)).alloc (.cells #[d] v)
 have h3 := (Boxed.new ((w.alloc (.cells #[a] s)).alloc (.cells #[b] t)) u c).alloc (.cells #[d] v)
 have h4 := Boxed.new (((w.alloc (.cells #[a] s)).alloc (.cells #[b] t)).alloc (.cells #[c] u)) v d
 simp only [World.size_alloc] at h2 h3 h4
 have hB : Below w.heap.size w w4 := ((((Below.refl _ w).alloc (Nat.le_refl _) _).alloc (by simp) _).alloc (by simp; omega) _).alloc (by simp; omega) _
 exact ⟨h1, h2, h3, h4, hB, by simp [w4]⟩
theorem boxed_ownT {β : Type} (B b : Nat) (t : TypeId) (v : Value) : OwnFrom B (fun (_ : β) W => Boxed W b t v) := Own.from (boxed_own b t (fun _ => v)) B
theorem find_none_all (l : List Int) (p : Int → Bool) (h : ∀ y ∈ l, p y = false) : l.find? p = none := by
 rw [List.find?_eq_none]
 intro y hy
 rw [h y hy]
 exact Bool.false_ne_true
theorem find_pre (p : Int → Bool) (x : Int) (hx : p x = true) : ∀ (q l : List Int), q ++ [x] <+: l → (∀ y ∈ q, p y = false) → l.find? p = some x
 | [], l, h, _ => by
  obtain ⟨t, rfl⟩ := h
  rw [List.nil_append, List.cons_append, List.find?_cons, hx]
 | y :: q, l, h, hq => by
  cases l with
  | nil => have := List.IsPrefix.length_le h; simp at this
  | cons z l =>
   rw [List.cons_append, List.cons_prefix_cons] at h
   obtain ⟨rfl, h⟩ := h
   rw [List.find?_cons, hq y (List.mem_cons_self ..)]
   exact find_pre p x hx q l h (fun z hz => hq z (List.mem_cons_of_mem _ hz))
theorem first_ends {W w : World} {D : Nat} {tmps : Array Value} {i : Int} {b : Bool} (hK : W.heap[D]? = some (.deferred (some []))) (b0 : Boxed W (w.heap.size + 1 + 1) 3 (.int .i64 i)) (b1 : Boxed W (w.heap.size + 1 + 1 + 1) 4 (.bool b))
 (hB : Below w.heap.size w W) (hD : w.heap.size ≤ D) (h8 : tmps[8]? = some (.pointer (some ⟨w.heap.size + 1 + 1, 0, none⟩))) (h9 : tmps[9]? = some (.pointer (some ⟨w.heap.size + 1 + 1 + 1, 0, none⟩))) :
 bodyPostM Fence.wide 4 Tryz.prog Tryz.f50 (fun e w' => e = .returned (.tuple #[.int .i64 i, .bool b]) ∧ Below w.heap.size w w') .ret { tmps := tmps, defers := [{ target := .collected D, args := #[] }] } W := by
 have e0 := Go.cell_kept b0.cell (grownBy_putObj' _ D (.deferred none)) (fun r e => by cases e; exact ⟨_, hK, rfl⟩)
 have e1 := Go.cell_kept b1.cell (grownBy_putObj' _ D (.deferred none)) (fun r e => by cases e; exact ⟨_, hK, rfl⟩)
 refine ⟨by simp, .inl ⟨_, _, rfl, run_takeDeferred hK, ?_⟩⟩
 refine ⟨.tuple #[.int .i64 i, .bool b], ?_, rfl, hB.trans (belowK_b (w := w) (Nat.le_refl _) W D _ _ hD hK rfl rfl)⟩
 simp [results, Tryz.f50, go_sem, e0, e1, h8, h9]
abbrev KX (n : Nat) := {x : Int // 0 ≤ x ∧ x < (n : Int)}
section
attribute [local go_sem] Oper.semAt_some
theorem top_first.inW (A0 : Option Addr) (c0 : Nat) (l0 : List (S57)) (A1 : Option Addr) (c1 : Nat) (l1 : List Int) (a2 a3 r1 : Int) (r2 : Bool) (w : World) (hr0 : Kd.C k57 w A0 l0.length l0) (hr1 : Kd.C (Kd.int .i64) w A1 l1.length l1) (h0 : 0 ≤ a2) (h1 : a2 < (l0.length : Int)) (hl : l0.length ≤ l1.length) (h512 : l0.length ≤ 512) (hr : (match fstK l0 l1 a2 a3 with | some k => (k, true) | none => (0, false)) = (r1, r2)) :
 CallsIn Fence.wide 4 Tryz.prog 50 #[.slice A0 l0.length c0, .slice A1 l1.length c1, .int .i64 a2, .int .i64 a3] w fun e w' => e = .returned (.tuple #[.int .i64 r1, .bool r2]) ∧ Below w.heap.size w w' := by
 have HR0 := a_ hr0
 have HR1 := a_ hr1
 have HRR := a_ hr
 have HM := a_ (And.intro h0 (And.intro h1 (And.intro hl h512)))
 have hmix : Tryz.prog.follows .mixedOrders = true := by kernel_rfl
 clear hr0 hr1 hr h0 h1 hl h512
 refine callsIn_of_wp_marks Tryz.func50 rfl trivial ?_ rfl
 simp only [Tryz.ntmps50, List.size_toArray, List.length_cons, List.length_nil, Nat.reduceAdd, Nat.reduceSub, Array.replicate_succ, Array.replicate_zero, List.push_toArray, List.append_toArray, List.nil_append, List.cons_append]
 have ff1 : Fence.wide.fn 57 := trivial
 gi_wp2_with (first
  | (gi_at_call 57; refine (tree_Below.in_ _ (by omega) _ _ _ _ _).mono ?_; rintro e w7 ⟨rfl, rfl⟩))
 obtain ⟨bx0, bx1, bx2, bx3, hB4, hs4⟩ := bx_four (w := w) (a := .slice A1 l1.length c1) (b := .int .i64 a3) (c := .int .i64 0) (d := .bool false) (s := 44) (t := 3) (u := 3) (v := 4)
 obtain ⟨w4, hw4⟩ : ∃ w4, (((w.alloc (.cells #[.slice A1 l1.length c1] 44)).alloc (.cells #[.int .i64 a3] 3)).alloc (.cells #[.int .i64 0] 3)).alloc (.cells #[.bool false] 4) = w4 := ⟨_, rfl⟩
 rw [hw4] at bx0 bx1 bx2 bx3 hB4 hs4
 simp only [hw4]
 clear hw4
 obtain ⟨W0, hW0⟩ : ∃ W0, (w4.alloc (.cells #[.slice A0 l0.length c0] 22)).alloc (.cells #[.int .i64 a2] 3) = W0 := ⟨_, rfl⟩
 have bN : Boxed W0 w4.heap.size 22 (.slice A0 l0.length c0) := by rw [← hW0]; exact (Boxed.new w4 22 (.slice A0 l0.length c0)).alloc _
 have bA : Boxed W0 (w4.heap.size + 1) 3 (.int .i64 a2) := by
  have h := Boxed.new (w4.alloc (.cells #[.slice A0 l0.length c0] 22)) 3 (.int .i64 a2)
  rw [hW0, World.size_alloc] at h
  exact h
 have hs0 : W0.heap.size = w4.heap.size + 2 := by rw [← hW0]; simp
 have hB0 : Below w.heap.size w W0 := by rw [← hW0]; exact (hB4.alloc hB4.size _).alloc (by simp; omega) _
 have by0 : Boxed W0 w.heap.size 44 (.slice A1 l1.length c1) := by rw [← hW0]; exact (bx0.alloc _).alloc _
 have by1 : Boxed W0 (w.heap.size + 1) 3 (.int .i64 a3) := by rw [← hW0]; exact (bx1.alloc _).alloc _
 have by2 : Boxed W0 (w.heap.size + 1 + 1) 3 (.int .i64 0) := by rw [← hW0]; exact (bx2.alloc _).alloc _
 have by3 : Boxed W0 (w.heap.size + 1 + 1 + 1) 4 (.bool false) := by rw [← hW0]; exact (bx3.alloc _).alloc _
 clear bx0 bx1 bx2 bx3
 have hn4 : w4.heap.size = w.heap.size + 1 + 1 + 1 + 1 := by omega
 rw [hn4] at bN bA hs0
 rw [hW0]
 clear hW0
 have HW0 := a_ (And.intro hs0 hs4)
 clear hs0 hs4
 refine wpIn_rangeFunc_ownH (n := 4) rfl (by omega) (gf := 61) (lb := #[.pointer (some ⟨w.heap.size + 1 + 1 + 1 + 1 + 1, 0, none⟩), .pointer (some ⟨w.heap.size + 1 + 1 + 1 + 1, 0, none⟩)]) rfl trivial (enters_of Tryz.func61 (by kernel_rfl) rfl)
  (tree_Below.stopsF (4 - 1) (by omega) A0 c0 l0 a2 HM.out.1 HM.out.2.1 (by have := HM.out.2.2.2; omega) W0 (Kd.C_below HR0.out hB0) (w.heap.size + 1 + 1 + 1 + 1) (w.heap.size + 1 + 1 + 1 + 1 + 1) W0.heap.size (Nat.le_refl _) (by have := HW0.out; omega) (by have := HW0.out; omega) bN.cell bA.cell w hB0 HR0.out hB0.size) belowK_t (belowK_b (Nat.le_refl _)) (Below.refl _ _) (fun _ => rfl)
  (fun pre W => (((Boxed W w.heap.size 44 (.slice A1 l1.length c1) ∧ Boxed W (w.heap.size + 1) 3 (.int .i64 a3)) ∧ Boxed W (w.heap.size + 1 + 1) 3 (.int .i64 0)) ∧ Boxed W (w.heap.size + 1 + 1 + 1) 4 (.bool false)) ∧ Below w.heap.size W0 W ∧ (∀ y ∈ pre.map (·.1), (rd l1 y == a3) = false))
  (fun c pre W => c = .ret ∧ ∃ (q : List (KX l0.length)) (x : KX l0.length), pre = q ++ [x] ∧ (rd l1 x.1 == a3) = true ∧ (∀ y ∈ q.map (·.1), (rd l1 y == a3) = false) ∧ (Boxed W (w.heap.size + 1 + 1) 3 (.int .i64 x.1) ∧ Boxed W (w.heap.size + 1 + 1 + 1) 4 (.bool true)) ∧ Below w.heap.size W0 W)
  (OwnFrom.and (OwnFrom.and (OwnFrom.and (OwnFrom.and (boxed_ownT _ _ _ _) (boxed_ownT _ _ _ _)) (boxed_ownT _ _ _ _)) (boxed_ownT _ _ _ _)) (OwnFrom.and (ownFrom_below hB0.size hB0.size) (ownFrom_pure _ _)))
  (fun c s A B row hs hg hr => by
   obtain ⟨h1, q, x, h2, h3, h4, h5, h6⟩ := hs
   exact ⟨h1, q, x, h2, h3, h4, (OwnFrom.and (boxed_ownT (β := Unit) _ _ _ _) (boxed_ownT _ _ _ _)) () A B row h5 hg hr, ownFrom_below (β := Unit) hB0.size hB0.size () A B row h6 hg hr⟩)
  ⟨⟨⟨⟨by0, by1⟩, by2⟩, by3⟩, Below.refl _ _, by simp⟩
  (fun x a' W => a' = { tmps := #[.slice A0 l0.length c0, .slice A1 l1.length c1, .int .i64 a2, .int .i64 a3, undef, .pointer (some ⟨w.heap.size, 0, none⟩), undef, .pointer (some ⟨w.heap.size + 1, 0, none⟩), .pointer (some ⟨w.heap.size + 1 + 1, 0, none⟩), .pointer (some ⟨w.heap.size + 1 + 1 + 1, 0, none⟩), .int .i64 x.1, .slice A0 l0.length c0, .int .i64 a2, .func (.func 61) #[] #[.pointer (some ⟨w.heap.size + 1 + 1 + 1 + 1 + 1, 0, none⟩), .pointer (some ⟨w.heap.size + 1 + 1 + 1 + 1, 0, none⟩)], .int .i64 x.1, undef, undef, undef, undef, undef, undef, undef], defers := [] })
  (fun x a' _ X Y row hs hg hr => hs)
  ?assign ?body ?done ?stop
 case assign =>
  rintro l pre x W K hI hK
  gi_wp2
  exact hK _ _ (KeepsFrom.refl _ _) (Below.refl _ _) hI rfl
 case body =>
  rintro l pre ⟨xv, hv0, hv1⟩ a' W hl ⟨r, hr⟩ ⟨⟨⟨⟨b0, b1⟩, b2⟩, b3⟩, hb, hq⟩ rfl hlt
  dsimp only
  have HQ := a_ (And.intro hq (And.intro hb (And.intro b0 (And.intro b1 (And.intro b2 b3)))))
  have hx1 : xv < (l1.length : Int) := by have := HM.out.2.2.1; omega
  obtain ⟨ad, e0, g0⟩ := Kd.at_int HR1.out xv hv0 hx1
  cases e0
  have hbw := hB0.trans hb
  have g1 := (hbw.cell (World.block_lt_of_cell? w _ g0)).trans g0
  have c0_ := b0.cell
  have c1_ := b1.cell
  have hx0 := eq_true hv0
  have hlx := eq_true hx1
  clear hq hlt hr hb b0 b1 b2 b3 hbw g0 hx1
  obtain ⟨bv, hbv⟩ : ∃ bv, (rd l1 xv == a3) = bv := ⟨_, rfl⟩
  gi_wp2
  refine wpIn_mono (Q := fun e a w' => e = .normal ∧ (∃ (t15 t16 t17 t18 t19 : Value), a = { tmps := #[.slice A0 l0.length c0, .slice (some ad) l1.length c1, .int .i64 a2, .int .i64 a3, undef, .pointer (some ⟨w.heap.size, 0, none⟩), undef, .pointer (some ⟨w.heap.size + 1, 0, none⟩), .pointer (some ⟨w.heap.size + 1 + 1, 0, none⟩), .pointer (some ⟨w.heap.size + 1 + 1 + 1, 0, none⟩), .int .i64 xv, .slice A0 l0.length c0, .int .i64 a2, .func (.func 61) #[] #[.pointer (some ⟨w.heap.size + 1 + 1 + 1 + 1 + 1, 0, none⟩), .pointer (some ⟨w.heap.size + 1 + 1 + 1 + 1, 0, none⟩)], .int .i64 xv, t15, t16, t17, t18, t19, .bool bv, undef], defers := [] }) ∧ ∃ nq, w' = W.drewN nq) ?reg ?post
  case reg =>
   clear HQ HW0 HM HRR
   gi_region_with_o (fail)
   all_goals exact ⟨rfl, ⟨_, _, _, _, _, rfl⟩, _, rfl⟩
  case post =>
   rintro e a W3 ⟨rfl, ⟨t15, t16, t17, t18, t19, rfl⟩, nq, rfl⟩
   clear c0_ c1_ g1 hx0 hlx
   obtain ⟨hq, hb, b0, b1, b2, b3⟩ := HQ.out
   have b2' : Boxed (W.drewN nq) (w.heap.size + 1 + 1) 3 (.int .i64 0) := b2
   have b3' : Boxed (W.drewN nq) (w.heap.size + 1 + 1 + 1) 4 (.bool false) := b3
   have c2_ := b2'.cell
   have c3_ := b3'.cell
   have f2_ := b2'.frozen
   have f3_ := b3'.frozen
   have HP := a_ (And.intro hq (And.intro hb (And.intro b2' b3')))
   have HX := a_ hbv
   have kq : KeepsFrom W0.heap.size W (W.drewN nq) := ⟨Nat.le_refl _, fun k o _ h _ => h⟩
   have HK := a_ kq
   clear hq hb b2 b3 b2' b3' hbv kq
   cases bv
   · gi_wp2
     refine ⟨HK.out, below_dn (Below.refl _ _) nq, ⟨⟨⟨b0, b1⟩, HP.out.2.2.1⟩, HP.out.2.2.2⟩, below_dn HP.out.2.1 nq, ?_⟩
     intro y hy
     rw [List.map_append, List.mem_append] at hy
     rcases hy with hy | hy
     · exact HP.out.1 y hy
     · rw [List.map_cons, List.map_nil, List.mem_singleton] at hy
       subst hy
       exact HX.out
   · gi_wp2
     clear c2_ c3_ f2_ f3_
     refine ⟨HK.out.trans (((KeepsOthers.setCell _ _ _).trans (KeepsOthers.setCell _ _ _)).from _), rfl, pre, ⟨xv, hv0, hv1⟩, rfl, HX.out, HP.out.1, ⟨?_, ?_⟩, ?_⟩
     · exact (HP.out.2.2.1.set _).other (by omega) _
     · exact (HP.out.2.2.2.other (by omega) _).set _
     · exact (((below_dn HP.out.2.1 nq).setCell (p := ⟨w.heap.size + 1 + 1, 0, none⟩) (by show w.heap.size ≤ w.heap.size + 1 + 1; omega) _).setCell (p := ⟨w.heap.size + 1 + 1 + 1, 0, none⟩) (by show w.heap.size ≤ w.heap.size + 1 + 1 + 1; omega) _)
 case done =>
  rintro D ys W hD hS ⟨⟨⟨⟨b0, b1⟩, b2⟩, b3⟩, hb, hq⟩ hK
  have HQ := a_ (And.intro hq (And.intro hb hS))
  clear hq hS
  have c2_ := b2.cell
  have c3_ := b3.cell
  have f2_ := b2.frozen
  have f3_ := b3.frozen
  gi_wp2
  clear c2_ c3_ f2_ f3_
  have hl : fstK l0 l1 a2 a3 = none := find_none_all _ _ (fun y hy => HQ.out.1 y (by rw [HQ.out.2.2]; exact hy))
  have hrr := HRR.out
  rw [hl] at hrr
  obtain ⟨rfl, rfl⟩ := Prod.mk.inj hrr
  exact first_ends (((KeepsOthers.setCell _ _ _).trans (KeepsOthers.setCell _ _ _)).same D _ hK rfl) ((b2.set _).other (by omega) _) ((b3.other (by omega) _).set _)
   (((hB0.trans HQ.out.2.1).setCell (p := ⟨w.heap.size + 1 + 1, 0, none⟩) (by show w.heap.size ≤ w.heap.size + 1 + 1; omega) _).setCell (p := ⟨w.heap.size + 1 + 1 + 1, 0, none⟩) (by show w.heap.size ≤ w.heap.size + 1 + 1 + 1; omega) _) (by have := hB0.size; omega) rfl rfl
 case stop =>
  rintro D c pre W hD hSp ⟨rfl, q, x, h1, h2, h3, ⟨b2, b3⟩, hb⟩ hK
  have HQ := a_ (And.intro hSp (And.intro h1 (And.intro h2 (And.intro h3 hb))))
  clear hSp h1 h2 h3
  have c2_ := b2.cell
  have c3_ := b3.cell
  gi_wp2
  clear c2_ c3_
  obtain ⟨hSp, h1, h2, h3, hb⟩ := HQ.out
  have hl : fstK l0 l1 a2 a3 = some x.1 := find_pre _ x.1 h2 (q.map (·.1)) _ (by rw [h1, List.map_append] at hSp; exact hSp) h3
  have hrr := HRR.out
  rw [hl] at hrr
  obtain ⟨rfl, rfl⟩ := Prod.mk.inj hrr
  exact first_ends hK b2 b3 (hB0.trans hb) (by have := hB0.size; omega) rfl rfl
end
theorem top_first.calls (A0 : Option Addr) (c0 : Nat) (l0 : List (S57)) (A1 : Option Addr) (c1 : Nat) (l1 : List Int) (a2 : Int) (a3 : Int) (r1 : Int) (r2 : Bool) (w : World) (hr0 : Kd.C k57 w A0 l0.length l0) (hc0 : l0.length ≤ c0) (hr1 : Kd.C (Kd.int .i64) w A1 l1.length l1) (hc1 : l1.length ≤ c1) (h : top_first.f l0 l1 a2 a3 = some (r1, r2)) :
 Calls Tryz.prog 50 #[.slice A0 l0.length c0, .slice A1 l1.length c1, .int .i64 a2, .int .i64 a3] w fun e w' => e = .returned (.tuple #[.int .i64 r1, .bool r2]) ∧ Below w.heap.size w w' := by
 unfold top_first.f at h
 by_cases c : 0 ≤ a2 ∧ a2 < (l0.length : Int) ∧ l0.length ≤ l1.length ∧ l0.length ≤ 512
 case neg =>
  rw [if_neg c] at h; cases h

 rw [if_pos c] at h
 refine (callsIn_wide (n := 4)).1 (top_first.inW A0 c0 l0 A1 c1 l1 a2 a3 r1 r2 w hr0 hr1 c.1 c.2.1 c.2.2.1 c.2.2.2 ?_)
 cases hf : fstK l0 l1 a2 a3 with
 | none => rw [hf] at h; exact Option.some.inj h
 | some k => rw [hf] at h; exact Option.some.inj h
set_option maxHeartbeats 8000000
set_option maxRecDepth 100000
attribute [local go_sem] max2_int min2_int max_two min_two max_three min_three max_four min_four   -- for this text's walks alone
set_option linter.unusedVariables false
set_option linter.unusedSimpArgs false

def bugS (ns : List S57) (ms : List Int) (a : Int) : Int × Int := if ((kidsTo ns a ns.length).all fun k => rd ms k == 1) = true then (1, a) else (3, 0)
def top_Bug.f (l0 : List S57) (l1 : List Int) (a2 : Int) : Option (Int × Int) :=
 if 0 ≤ a2 ∧ a2 < (l0.length : Int) ∧ l0.length ≤ l1.length ∧ l0.length ≤ 512 then some (bugS l0 l1 a2) else none
/-- a block of two cells -/
def Boxed2 (W : World) (B : Nat) (t : TypeId) (u v : Value) : Prop := W.heap[B]? = some (.cells #[u, v] t (0, 0))
theorem Boxed2.lt {W : World} {B : Nat} {t : TypeId} {u v : Value} (h : Boxed2 W B t u v) : B < W.heap.size := (Array.getElem?_eq_some_iff.1 h).1
theorem Boxed2.c0 {W : World} {B : Nat} {t : TypeId} {u v : Value} (h : Boxed2 W B t u v) : W.cell? ⟨B, 0, none⟩ = some u := by simp [World.cell?, show W.heap[B]? = _ from h]
theorem Boxed2.c1 {W : World} {B : Nat} {t : TypeId} {u v : Value} (h : Boxed2 W B t u v) : W.cell? ⟨B, 1, none⟩ = some v := by simp [World.cell?, show W.heap[B]? = _ from h]
theorem Boxed2.f0 {W : World} {B : Nat} {t : TypeId} {u v : Value} (h : Boxed2 W B t u v) : W.frozen? ⟨B, 0, none⟩ = false := by simp [World.frozen?, show W.heap[B]? = _ from h]
theorem Boxed2.f1 {W : World} {B : Nat} {t : TypeId} {u v : Value} (h : Boxed2 W B t u v) : W.frozen? ⟨B, 1, none⟩ = false := by simp [World.frozen?, show W.heap[B]? = _ from h]
theorem Boxed2.kept {W W' : World} {row : Option Nat} {B : Nat} {t : TypeId} {u v : Value} (h : Boxed2 W B t u v) (hg : W.grownBy W' row) (hne : some B ≠ row) : Boxed2 W' B t u v := (hg.block B h.lt hne).trans h
theorem Boxed2.new (W : World) (t : TypeId) (u v : Value) : Boxed2 (W.alloc (.cells #[u, v] t)) W.heap.size t u v := World.alloc_heap_new W _
theorem Boxed2.alloc {W : World} {B : Nat} {t : TypeId} {u v : Value} (h : Boxed2 W B t u v) (o : Obj) : Boxed2 (W.alloc o) B t u v := h.kept (World.grownBy_alloc W o none) (by simp)
theorem Boxed2.set0 {W : World} {B : Nat} {t : TypeId} {u v : Value} (h : Boxed2 W B t u v) (a : Value) : Boxed2 (W.setCell ⟨B, 0, none⟩ a) B t a v := by
 obtain ⟨hlt, hk⟩ := Array.getElem?_eq_some_iff.1 h
 show (W.heap.modify B _)[B]? = _
 rw [Array.getElem?_eq_getElem (by rw [Array.size_modify]; exact hlt), Array.getElem_modify_self, hk]
 rfl
theorem Boxed2.set1 {W : World} {B : Nat} {t : TypeId} {u v : Value} (h : Boxed2 W B t u v) (a : Value) : Boxed2 (W.setCell ⟨B, 1, none⟩ a) B t u a := by
 obtain ⟨hlt, hk⟩ := Array.getElem?_eq_some_iff.1 h
 show (W.heap.modify B _)[B]? = _
 rw [Array.getElem?_eq_getElem (by rw [Array.size_modify]; exact hlt), Array.getElem_modify_self, hk]
 rfl
theorem Boxed2.put {W : World} {B : Nat} {t : TypeId} {u v : Value} (h : Boxed2 W B t u v) (a b : Value) : Boxed2 ((W.setCell ⟨B, 0, none⟩ a).setCell ⟨B, 1, none⟩ b) B t a b := (h.set0 a).set1 b
theorem bug_ends {W w : World} {D : Nat} {tmps : Array Value} {i j : Int} (hK : W.heap[D]? = some (.deferred (some []))) (b : Boxed2 W (w.heap.size + 1) 48 (.int .i64 i) (.int .i64 j))
 (hB : Below w.heap.size w W) (hD : w.heap.size ≤ D) (h6 : tmps[6]? = some (.pointer (some ⟨w.heap.size + 1, 0, none⟩))) :
 bodyPostM Fence.wide 4 Tryz.prog Tryz.f49 (fun e w' => e = .returned (.agg #[.int .i64 i, .int .i64 j]) ∧ Below w.heap.size w w') .ret { tmps := tmps, defers := [{ target := .collected D, args := #[] }] } W := by
 have e0 := Go.cell_kept b.c0 (grownBy_putObj' _ D (.deferred none)) (fun r e => by cases e; exact ⟨_, hK, rfl⟩)
 have e1 := Go.cell_kept b.c1 (grownBy_putObj' _ D (.deferred none)) (fun r e => by cases e; exact ⟨_, hK, rfl⟩)
 have hu := Tryz.underlying48
 refine ⟨by simp, .inl ⟨_, _, rfl, run_takeDeferred hK, ?_⟩⟩
 refine ⟨.agg #[.int .i64 i, .int .i64 j], ?_, rfl, hB.trans (belowK_b (w := w) (Nat.le_refl _) W D _ _ hD hK rfl rfl)⟩
 simp [results, Tryz.f49, go_sem, e0, e1, h6]
theorem boxed2_ownT {β : Type} (B0 B : Nat) (t : TypeId) (u v : Value) : OwnFrom B0 (fun (_ : β) W => Boxed2 W B t u v) :=
 Own.from (fun s X Y row hs hg hrow => hs.kept hg (fun e' => by obtain ⟨o, ho, hc⟩ := hrow B e'.symm; rw [show X.heap[B]? = _ from hs] at ho; cases ho; cases hc)) B0
section
attribute [local go_sem] Oper.semAt_some
theorem top_Bug.inW (A0 : Option Addr) (c0 : Nat) (l0 : List (S57)) (A1 : Option Addr) (c1 : Nat) (l1 : List Int) (a2 r1 : Int) (r2 : Int) (w : World) (hr0 : Kd.C k57 w A0 l0.length l0) (hr1 : Kd.C (Kd.int .i64) w A1 l1.length l1) (h0 : 0 ≤ a2) (h1 : a2 < (l0.length : Int)) (hl : l0.length ≤ l1.length) (h512 : l0.length ≤ 512) (hr : bugS l0 l1 a2 = (r1, r2)) :
 CallsIn Fence.wide 4 Tryz.prog 49 #[.slice A0 l0.length c0, .slice A1 l1.length c1, .int .i64 a2] w fun e w' => e = .returned (.agg #[.int .i64 r1, .int .i64 r2]) ∧ Below w.heap.size w w' := by
 have HR0 := a_ hr0
 have HR1 := a_ hr1
 have HRR := a_ hr
 have HM := a_ (And.intro h0 (And.intro h1 (And.intro hl h512)))
 have hmix : Tryz.prog.follows .mixedOrders = true := by kernel_rfl
 have hu := Tryz.underlying48
 clear hr0 hr1 hr h0 h1 hl h512
 refine callsIn_of_wp_marks Tryz.func49 rfl trivial ?_ rfl
 simp only [Tryz.ntmps49, List.size_toArray, List.length_cons, List.length_nil, Nat.reduceAdd, Nat.reduceSub, Array.replicate_succ, Array.replicate_zero, List.push_toArray, List.append_toArray, List.nil_append, List.cons_append]
 have ff1 : Fence.wide.fn 57 := trivial
 gi_wp2_with (first
  | (gi_at_call 57; refine (tree_Below.in_ _ (by omega) _ _ _ _ _).mono ?_; rintro e w7 ⟨rfl, rfl⟩))
 have bx0 := ((Boxed.new w 44 (.slice A1 l1.length c1)).alloc (.cells #[.int .i64 0, .int .i64 0] 48))
 have bx1 := Boxed2.new (w.alloc (.cells #[.slice A1 l1.length c1] 44)) 48 (.int .i64 0) (.int .i64 0)
 obtain ⟨w4, hw4⟩ : ∃ w4, (w.alloc (.cells #[.slice A1 l1.length c1] 44)).alloc (.cells #[.int .i64 0, .int .i64 0] 48) = w4 := ⟨_, rfl⟩
 have hB4 : Below w.heap.size w w4 := by rw [← hw4]; exact ((Below.refl _ w).alloc (Nat.le_refl _) _).alloc (by simp) _
 have hn4 : w4.heap.size = w.heap.size + 1 + 1 := by rw [← hw4]; simp
 rw [hw4] at bx0 bx1
 simp only [World.size_alloc] at bx1
 simp only [hw4]
 clear hw4
 obtain ⟨W0, hW0⟩ : ∃ W0, (w4.alloc (.cells #[.slice A0 l0.length c0] 22)).alloc (.cells #[.int .i64 a2] 3) = W0 := ⟨_, rfl⟩
 have bN : Boxed W0 w4.heap.size 22 (.slice A0 l0.length c0) := by rw [← hW0]; exact (Boxed.new w4 22 (.slice A0 l0.length c0)).alloc _
 have bA : Boxed W0 (w4.heap.size + 1) 3 (.int .i64 a2) := by
  have h := Boxed.new (w4.alloc (.cells #[.slice A0 l0.length c0] 22)) 3 (.int .i64 a2)
  rw [hW0, World.size_alloc] at h
  exact h
 have hs0 : W0.heap.size = w4.heap.size + 2 := by rw [← hW0]; simp
 have hB0 : Below w.heap.size w W0 := by rw [← hW0]; exact (hB4.alloc hB4.size _).alloc (by simp; omega) _
 have by0 : Boxed W0 w.heap.size 44 (.slice A1 l1.length c1) := by rw [← hW0]; exact (bx0.alloc _).alloc _
 have by1 : Boxed2 W0 (w.heap.size + 1) 48 (.int .i64 0) (.int .i64 0) := by rw [← hW0]; exact (bx1.alloc _).alloc _
 clear bx0 bx1
 rw [hn4] at bN bA hs0
 rw [hW0]
 clear hW0
 have HW0 := a_ hs0
 clear hs0
 refine wpIn_rangeFunc_ownH (n := 4) rfl (by omega) (gf := 61) (lb := #[.pointer (some ⟨w.heap.size + 1 + 1 + 1, 0, none⟩), .pointer (some ⟨w.heap.size + 1 + 1, 0, none⟩)]) rfl trivial (enters_of Tryz.func61 (by kernel_rfl) rfl)
  (tree_Below.stopsF (4 - 1) (by omega) A0 c0 l0 a2 HM.out.1 HM.out.2.1 (by have := HM.out.2.2.2; omega) W0 (Kd.C_below HR0.out hB0) (w.heap.size + 1 + 1) (w.heap.size + 1 + 1 + 1) W0.heap.size (Nat.le_refl _) (by have := HW0.out; omega) (by have := HW0.out; omega) bN.cell bA.cell w hB0 HR0.out hB0.size) belowK_t (belowK_b (Nat.le_refl _)) (Below.refl _ _) (fun _ => rfl)
  (fun pre W => (Boxed W w.heap.size 44 (.slice A1 l1.length c1) ∧ Boxed2 W (w.heap.size + 1) 48 (.int .i64 0) (.int .i64 0)) ∧ Below w.heap.size W0 W ∧ (∀ y ∈ pre.map (·.1), (rd l1 y == 1) = true))
  (fun c pre W => c = .ret ∧ ∃ (q : List (KX l0.length)) (x : KX l0.length), pre = q ++ [x] ∧ (rd l1 x.1 == 1) = false ∧ Boxed2 W (w.heap.size + 1) 48 (.int .i64 3) (.int .i64 0) ∧ Below w.heap.size W0 W)
  (OwnFrom.and (OwnFrom.and (boxed_ownT _ _ _ _) (boxed2_ownT _ _ _ _ _)) (OwnFrom.and (ownFrom_below hB0.size hB0.size) (ownFrom_pure _ _)))
  (fun c s A B row hs hg hr => by
   obtain ⟨h1, q, x, h2, h3, h5, h6⟩ := hs
   exact ⟨h1, q, x, h2, h3, (boxed2_ownT (β := Unit) _ _ _ _ _) () A B row h5 hg hr, ownFrom_below (β := Unit) hB0.size hB0.size () A B row h6 hg hr⟩)
  ⟨⟨by0, by1⟩, Below.refl _ _, by simp⟩
  (fun x a' W => a' = { tmps := #[.slice A0 l0.length c0, .slice A1 l1.length c1, .int .i64 a2, undef, .pointer (some ⟨w.heap.size, 0, none⟩), undef, .pointer (some ⟨w.heap.size + 1, 0, none⟩), .int .i64 x.1, .slice A0 l0.length c0, .int .i64 a2, .func (.func 61) #[] #[.pointer (some ⟨w.heap.size + 1 + 1 + 1, 0, none⟩), .pointer (some ⟨w.heap.size + 1 + 1, 0, none⟩)], .int .i64 x.1, undef, undef, undef, undef, undef, undef, undef, undef], defers := [] })
  (fun x a' _ X Y row hs hg hr => hs)
  ?assign ?body ?done ?stop
 case assign =>
  rintro l pre x W K hI hK
  gi_wp2
  exact hK _ _ (KeepsFrom.refl _ _) (Below.refl _ _) hI rfl
 case body =>
  rintro l pre ⟨xv, hv0, hv1⟩ a' W hl ⟨r, hr⟩ ⟨⟨b0, b1⟩, hb, hq⟩ rfl hlt
  dsimp only
  have HQ := a_ (And.intro hq (And.intro hb (And.intro b0 b1)))
  have hx1 : xv < (l1.length : Int) := by have := HM.out.2.2.1; omega
  obtain ⟨ad, e0, g0⟩ := Kd.at_int HR1.out xv hv0 hx1
  cases e0
  have hbw := hB0.trans hb
  have g1 := (hbw.cell (World.block_lt_of_cell? w _ g0)).trans g0
  have c0_ := b0.cell
  have c1_ := b1.c0
  have c2_ := b1.c1
  have f1_ := b1.f0
  have f2_ := b1.f1
  have hx0 := eq_true hv0
  have hlx := eq_true hx1
  clear hq hlt hr hb b0 b1 hbw g0 hx1
  cases hbv : (rd l1 xv == 1) with
  | true =>
   have hne : (rd l1 xv != 1) = false := by rw [bne, hbv]; rfl
   have HX := a_ hbv
   clear hbv
   gi_wp2
   refine ⟨KeepsFrom.refl _ _, Below.refl _ _, HQ.out.2.2, HQ.out.2.1, ?_⟩
   intro y hy
   rw [List.map_append, List.mem_append] at hy
   rcases hy with hy | hy
   · exact HQ.out.1 y hy
   · rw [List.map_cons, List.map_nil, List.mem_singleton] at hy
     subst hy
     exact HX.out
  | false =>
   have hne : (rd l1 xv != 1) = true := by rw [bne, hbv]; rfl
   have HX := a_ hbv
   clear hbv
   gi_wp2
   clear c1_ c2_ f1_ f2_
   exact ⟨((KeepsOthers.setCell _ _ _).trans (KeepsOthers.setCell _ _ _)).from _, rfl, pre, ⟨xv, hv0, hv1⟩, rfl, HX.out, HQ.out.2.2.2.put _ _, (HQ.out.2.1.setCell (p := ⟨w.heap.size + 1, 0, none⟩) (by show w.heap.size ≤ w.heap.size + 1; omega) _).setCell (p := ⟨w.heap.size + 1, 1, none⟩) (by show w.heap.size ≤ w.heap.size + 1; omega) _⟩
 case done =>
  rintro D ys W hD hS ⟨⟨b0, b1⟩, hb, hq⟩ hK
  have HQ := a_ (And.intro hq (And.intro hb hS))
  clear hq hS
  have c1_ := b1.c0
  have c2_ := b1.c1
  have f1_ := b1.f0
  have f2_ := b1.f1
  gi_wp2
  clear c1_ c2_ f1_ f2_
  have hl : bugS l0 l1 a2 = (1, a2) := by
   unfold bugS
   rw [if_pos (List.all_eq_true.2 fun y hy => HQ.out.1 y (by rw [HQ.out.2.2]; exact hy))]
  have hrr := HRR.out
  rw [hl] at hrr
  obtain ⟨rfl, rfl⟩ := Prod.mk.inj hrr
  exact bug_ends (((KeepsOthers.setCell _ _ _).trans (KeepsOthers.setCell _ _ _)).same D _ hK rfl) (b1.put _ _)
   (((hB0.trans HQ.out.2.1).setCell (p := ⟨w.heap.size + 1, 0, none⟩) (by show w.heap.size ≤ w.heap.size + 1; omega) _).setCell (p := ⟨w.heap.size + 1, 1, none⟩) (by show w.heap.size ≤ w.heap.size + 1; omega) _) (by have := hB0.size; omega) rfl
 case stop =>
  rintro D c pre W hD hSp ⟨rfl, q, x, h1, h2, b, hb⟩ hK
  have HQ := a_ (And.intro hSp (And.intro h1 (And.intro h2 hb)))
  clear hSp h1 h2
  gi_wp2
  obtain ⟨hSp, h1, h2, hb⟩ := HQ.out
  have hl : bugS l0 l1 a2 = (3, 0) := by
   unfold bugS
   rw [if_neg]
   intro hall
   have hm : x.1 ∈ kidsTo l0 a2 l0.length := hSp.subset (by rw [h1]; simp)
   have := List.all_eq_true.1 hall x.1 hm
   rw [h2] at this
   exact Bool.false_ne_true this
  have hrr := HRR.out
  rw [hl] at hrr
  obtain ⟨rfl, rfl⟩ := Prod.mk.inj hrr
  exact bug_ends hK b (hB0.trans hb) (by have := hB0.size; omega) rfl
end
theorem top_Bug.calls (A0 : Option Addr) (c0 : Nat) (l0 : List (S57)) (A1 : Option Addr) (c1 : Nat) (l1 : List Int) (a2 : Int) (r1 : Int) (r2 : Int) (w : World) (hr0 : Kd.C k57 w A0 l0.length l0) (hc0 : l0.length ≤ c0) (hr1 : Kd.C (Kd.int .i64) w A1 l1.length l1) (hc1 : l1.length ≤ c1) (h : top_Bug.f l0 l1 a2 = some (r1, r2)) :
 Calls Tryz.prog 49 #[.slice A0 l0.length c0, .slice A1 l1.length c1, .int .i64 a2] w fun e w' => e = .returned (.agg #[.int .i64 r1, .int .i64 r2]) ∧ Below w.heap.size w w' := by
 unfold top_Bug.f at h
 by_cases c : 0 ≤ a2 ∧ a2 < (l0.length : Int) ∧ l0.length ≤ l1.length ∧ l0.length ≤ 512
 case neg =>
  rw [if_neg c] at h; cases h

 rw [if_pos c] at h
 exact (callsIn_wide (n := 4)).1 (top_Bug.inW A0 c0 l0 A1 c1 l1 a2 r1 r2 w hr0 hr1 c.1 c.2.1 c.2.2.1 c.2.2.2 (Option.some.inj h))
set_option maxHeartbeats 8000000
set_option maxRecDepth 100000
attribute [local go_sem] max2_int min2_int max_two min_two max_three min_three max_four min_four   -- for this text's walks alone
set_option linter.unusedVariables false
set_option linter.unusedSimpArgs false

def top_Ask.l0 : Nat → List (S57) → List Int → Int → Int → Bool → Option (Int × Int)
 | 0, _, _, _, _, _ => none
 | k + 1, x0, x1, x5, x6, x7 => if x7 = true then ((top_first.f x0 x1 x6 2).bind fun bt308 => (top_Ask.l0 k x0 x1 x6 bt308.1 bt308.2)) else ((top_first.f x0 x1 x5 0).bind fun bt310 => (if bt310.2 = true then (some (0, bt310.1)) else ((top_Bug.f x0 x1 x5).bind fun bt312 => (some (bt312.1, bt312.2)))))
def top_Ask.f (k : Nat) (l0 : List (S57)) (l1 : List Int) : Option (Int × Int) := if 0 < (l1.length : Int) then (if (rd l1 0) = 0 then (some (0, 0)) else (if (rd l1 0) = 1 then (some (2, 0)) else (if (rd l1 0) = 3 then (some (3, 0)) else ((top_first.f l0 l1 0 2).bind fun bt306 => (top_Ask.l0 k l0 l1 0 bt306.1 bt306.2))))) else (none)
theorem top_Ask.calls (k : Nat) (A0 : Option Addr) (c0 : Nat) (l0 : List (S57)) (A1 : Option Addr) (c1 : Nat) (l1 : List Int) (r1 : Int) (r2 : Int) (w : World) (hr0 : Kd.C k57 w A0 l0.length l0) (hc0 : l0.length ≤ c0) (hr1 : Kd.C (Kd.int .i64) w A1 l1.length l1) (hc1 : l1.length ≤ c1) (h : top_Ask.f k l0 l1 = some (r1, r2)) :
 Calls Tryz.prog 36 #[.slice A0 l0.length c0, .slice A1 l1.length c1] w fun e w' => e = .returned (.agg #[.int .i64 r1, .int .i64 r2]) ∧ Below w.heap.size w w' := by
 have hu48 := Tryz.underlying48
 have HR0 := a_ hr0
 have HC0 := a_ hc0
 clear hr0 hc0
 have HR1 := a_ hr1
 have HC1 := a_ hc1
 clear hr1 hc1
 have HB := a_ (Below.refl w.heap.size w)
 have H := h; unfold top_Ask.f at H
 clear h
 replace H := ifI_ H; obtain ⟨c3, H⟩ := H
 have c3b0 : decide (0 < (l1.length : Int)) = true := decide_eq_true c3
 have c3b1 : decide (0 < l1.length) = true := decide_eq_true (by omega)
 clear c3
 by_cases c4 : (rd l1 0) = 0
 case pos =>
  rw [if_pos c4] at H
  have c4b0 : ((rd l1 0) == 0) = true := beq_iff_eq.mpr c4
  have c4b1 : ((rd l1 0) != 0) = false := bne_eq_false_iff_eq.mpr c4
  clear c4
  simp only [Option.some.injEq, Prod.mk.injEq] at H
  obtain ⟨rfl, rfl⟩ := H
  go_enter Tryz.func36, Tryz.ntmps36
  go_wp2_with (first | ((with_reducible refine gate_dst (N := 4) rfl ?_); refine boxE_ 4 #[.int .i64 0, .int .i64 0] 48 ?_; intro g0 hg w5 hbox hb; have B0 := a_ (hbox); have E0 := a_ ((gE_ hg : w.heap.size ≤ g0)); replace HB := a_ (below_step hB_ hb); clear hb hbox hg; have p305 : 0 ≤ (0 : Int) := (by omega); have q305 : 0 < (l1.length : Int) := of_decide_eq_true hA_; obtain ⟨d0, e305, h0⟩ := Kd.at_int HR1.out 0 p305 q305; cases e305; have qi305 : (0 < l1.length) = True := eq_true (by omega); (try rw [show ((0 : Int)).toNat = 0 from rfl] at h0); (try rw [Addr.add_zero'] at h0); replace h0 := cl_ HB.out h0; replace p305 := eq_true p305; replace q305 := eq_true q305; obtain ⟨z0, z1, f0, f1⟩ := bx2_ B0.out))
  refine bodyPost_ret (results_cell_row rfl _ _ g0 48 #[.int .i64 0, .int .i64 0] (0, 0) _ rfl (bP_ (bP_ (hK_ B0.out))) Tryz.underlying48 rfl (by kernel_rfl)) rfl ?_
  exact ⟨hV_, hC_⟩
 rw [if_neg c4] at H
 have c4b0 : ((rd l1 0) == 0) = false := beq_eq_false_iff_ne.mpr c4
 have c4b1 : ((rd l1 0) != 0) = true := bne_iff_ne.mpr c4
 by_cases c7 : (rd l1 0) = 1
 case pos =>
  rw [if_pos c7] at H
  have c7b0 : ((rd l1 0) == 1) = true := beq_iff_eq.mpr c7
  have c7b1 : ((rd l1 0) != 1) = false := bne_eq_false_iff_eq.mpr c7
  clear c7
  simp only [Option.some.injEq, Prod.mk.injEq] at H
  obtain ⟨rfl, rfl⟩ := H
  go_enter Tryz.func36, Tryz.ntmps36
  go_wp2_with (first | ((with_reducible refine gate_dst (N := 4) rfl ?_); refine boxE_ 4 #[.int .i64 0, .int .i64 0] 48 ?_; intro g0 hg w8 hbox hb; have B0 := a_ (hbox); have E0 := a_ ((gE_ hg : w.heap.size ≤ g0)); replace HB := a_ (below_step hB_ hb); clear hb hbox hg; have p305 : 0 ≤ (0 : Int) := (by omega); have q305 : 0 < (l1.length : Int) := of_decide_eq_true hA_; obtain ⟨d0, e305, h0⟩ := Kd.at_int HR1.out 0 p305 q305; cases e305; have qi305 : (0 < l1.length) = True := eq_true (by omega); (try rw [show ((0 : Int)).toNat = 0 from rfl] at h0); (try rw [Addr.add_zero'] at h0); replace h0 := cl_ HB.out h0; replace p305 := eq_true p305; replace q305 := eq_true q305; obtain ⟨z2, z3, f2, f3⟩ := bx2_ B0.out))
  refine bodyPost_ret (results_cell_row rfl _ _ g0 48 #[.int .i64 2, .int .i64 0] (0, 0) _ rfl (bP_ (bP_ (hK_ B0.out))) Tryz.underlying48 rfl (by kernel_rfl)) rfl ?_
  exact ⟨hV_, hC_⟩
 rw [if_neg c7] at H
 have c7b0 : ((rd l1 0) == 1) = false := beq_eq_false_iff_ne.mpr c7
 have c7b1 : ((rd l1 0) != 1) = true := bne_iff_ne.mpr c7
 by_cases c10 : (rd l1 0) = 3
 case pos =>
  rw [if_pos c10] at H
  have c10b0 : ((rd l1 0) == 3) = true := beq_iff_eq.mpr c10
  have c10b1 : ((rd l1 0) != 3) = false := bne_eq_false_iff_eq.mpr c10
  clear c10
  simp only [Option.some.injEq, Prod.mk.injEq] at H
  obtain ⟨rfl, rfl⟩ := H
  go_enter Tryz.func36, Tryz.ntmps36
  go_wp2_with (first | ((with_reducible refine gate_dst (N := 4) rfl ?_); refine boxE_ 4 #[.int .i64 0, .int .i64 0] 48 ?_; intro g0 hg w0 hbox hb; have B0 := a_ (hbox); have E0 := a_ ((gE_ hg : w.heap.size ≤ g0)); replace HB := a_ (below_step hB_ hb); clear hb hbox hg; have p305 : 0 ≤ (0 : Int) := (by omega); have q305 : 0 < (l1.length : Int) := of_decide_eq_true hA_; obtain ⟨d0, e305, h0⟩ := Kd.at_int HR1.out 0 p305 q305; cases e305; have qi305 : (0 < l1.length) = True := eq_true (by omega); (try rw [show ((0 : Int)).toNat = 0 from rfl] at h0); (try rw [Addr.add_zero'] at h0); replace h0 := cl_ HB.out h0; replace p305 := eq_true p305; replace q305 := eq_true q305; obtain ⟨z4, z5, f4, f5⟩ := bx2_ B0.out))
  refine bodyPost_ret (results_cell_row rfl _ _ g0 48 #[.int .i64 3, .int .i64 0] (0, 0) _ rfl (bP_ (bP_ (hK_ B0.out))) Tryz.underlying48 rfl (by kernel_rfl)) rfl ?_
  exact ⟨hV_, hC_⟩
 rw [if_neg c10] at H
 have c10b0 : ((rd l1 0) == 3) = false := beq_eq_false_iff_ne.mpr c10
 have c10b1 : ((rd l1 0) != 3) = true := bne_iff_ne.mpr c10
 replace H := Option.bind_eq_some_iff.mp H
 obtain ⟨⟨t1, t2⟩, A130, H⟩ := H
 try dsimp only at H
 have A13 := a_ A130
 clear A130
 have H' := a_ H
 clear H
 go_enter Tryz.func36, Tryz.ntmps36
 go_wp2_with (first | ((with_reducible refine gate_dst (N := 4) rfl ?_); refine boxE_ 4 #[.int .i64 0, .int .i64 0] 48 ?_; intro g0 hg w1 hbox hb; have B0 := a_ (hbox); have E0 := a_ ((gE_ hg : w.heap.size ≤ g0)); replace HB := a_ (below_step hB_ hb); clear hb hbox hg; have p305 : 0 ≤ (0 : Int) := (by omega); have q305 : 0 < (l1.length : Int) := of_decide_eq_true hA_; obtain ⟨d0, e305, h0⟩ := Kd.at_int HR1.out 0 p305 q305; cases e305; have qi305 : (0 < l1.length) = True := eq_true (by omega); (try rw [show ((0 : Int)).toNat = 0 from rfl] at h0); (try rw [Addr.add_zero'] at h0); replace h0 := cl_ HB.out h0; replace p305 := eq_true p305; replace q305 := eq_true q305) | ((with_reducible refine gate_callee (f := 50) rfl ?_); refine goesL_ (some 26) rfl rfl Tryz.func50 (by kernel_rfl) rfl #[.slice A0 l0.length c0, .slice (some d0) l1.length c1, .int .i64 0, .int .i64 2] rfl hL_ ?_; (with_reducible refine (top_first.calls _ _ l0 _ _ l1 0 2 t1 t2 _ ?s1 ?s2 ?s3 ?s4 A13.out).mono ?_); (case s1 => exact cB_ HR0.out); (case s2 => exact HC0.out); (case s3 => exact cB_ HR1.out); (case s4 => exact HC1.out); rintro e w2 ⟨rfl, hb⟩; refine ⟨_, rfl, ?_⟩; replace B0 := a_ (bB_ B0.out hb); replace HB := a_ (below_step hC_ hb); (try clear hb); (try clear hb2); (try clear hk); (try clear hi)))
 (try simp only [Act.put, List.setIfInBounds_toArray, List.set_cons_zero, List.set_cons_succ])
 go_loopg [5, 6, 7] k (fun kq v5 v6 v7 w' => ∃ (x0 : Int) (x1 : Int) (x2 : Bool), v5 = .int .i64 x0 ∧ v6 = .int .i64 x1 ∧ v7 = .bool x2 ∧ Aside0 (top_Ask.l0 kq l0 l1 x0 x1 x2 = some (r1, r2)) ∧ Aside0 (kq ≤ k) ∧ Aside0 (w'.heap[g0]? = some (.cells #[.int .i64 0, .int .i64 0] 48 (0, 0))) ∧ Aside0 (Below w.heap.size w w'))
 case atStart => exact ⟨(0), (t1), (t2), hW_, hW_, hW_, H', ⟨Nat.le_refl _⟩, ⟨(hK_ B0.out)⟩, ⟨hC_⟩⟩
 case round =>
  clear H'
  try clear c1
  try clear p2
  try clear c3
  try clear c3b0
  try clear c3b1
  try clear p3
  try clear q3
  try clear h1
  try clear qi3
  try clear c4
  try clear c4b0
  try clear c4b1
  try clear c5
  try clear c7
  try clear c7b0
  try clear c7b1
  try clear c10
  try clear c10b0
  try clear c10b1
  try clear z4
  try clear z5
  try clear z0
  try clear z1
  try clear z2
  try clear z3
  try clear f4
  try clear f5
  try clear f0
  try clear f1
  try clear f2
  try clear f3
  try clear h0
  try clear p305
  try clear q305
  obtain ⟨x0, x1, x2, rfl, rfl, rfl, HA, HK1, B0, HB⟩ := hrel
  cases gk with
  | zero => exact absurd HA.out (by simp [top_Ask.l0])
  | succ k1 =>
   have H := HA.out
   clear HA
   simp only [top_Ask.l0] at H
   by_cases c16 : x2 = true
   case pos =>
    subst c16
    rw [if_pos rfl] at H
    replace H := Option.bind_eq_some_iff.mp H
    obtain ⟨⟨t3, t4⟩, A170, H⟩ := H
    try dsimp only at H
    have A17 := a_ A170
    clear A170
    have H' := a_ H
    clear H
    go_wp2_with (first | ((with_reducible refine gate_callee (f := 50) rfl ?_); refine goesL_ (some 34) rfl rfl Tryz.func50 (by kernel_rfl) rfl #[.slice A0 l0.length c0, .slice (some d0) l1.length c1, .int .i64 x1, .int .i64 2] rfl hL_ ?_; (with_reducible refine (top_first.calls _ _ l0 _ _ l1 x1 2 t3 t4 _ ?s1 ?s2 ?s3 ?s4 A17.out).mono ?_); (case s1 => exact cB_ HR0.out); (case s2 => exact HC0.out); (case s3 => exact cB_ HR1.out); (case s4 => exact HC1.out); rintro e w3 ⟨rfl, hb⟩; refine ⟨_, rfl, ?_⟩; replace B0 := a_ (bB_ B0.out hb); replace HB := a_ (below_step hC_ hb); (try clear hb); (try clear hb2); (try clear hk); (try clear hi)))
    go_roundg k1
    case measure => have := HK1.out; omega
    case rel => exact ⟨(x1), (t3), (t4), hW_, hW_, hW_, H', ⟨by have := HK1.out; omega⟩, ⟨(hK_ B0.out)⟩, ⟨hC_⟩⟩
   replace c16 := Bool.eq_false_iff.mpr c16
   subst c16
   rw [if_neg (show ¬ (false = true) by decide)] at H
   replace H := Option.bind_eq_some_iff.mp H
   obtain ⟨⟨t0, t7⟩, A190, H⟩ := H
   try dsimp only at H
   have A19 := a_ A190
   clear A190
   by_cases c20 : t7 = true
   case pos =>
    subst c20
    rw [if_pos rfl] at H
    simp only [Option.some.injEq, Prod.mk.injEq] at H
    obtain ⟨rfl, rfl⟩ := H
    go_wp2_with (first | ((with_reducible refine gate_callee (f := 50) rfl ?_); refine goesL_ (some 42) rfl rfl Tryz.func50 (by kernel_rfl) rfl #[.slice A0 l0.length c0, .slice (some d0) l1.length c1, .int .i64 x0, .int .i64 0] rfl hL_ ?_; (with_reducible refine (top_first.calls _ _ l0 _ _ l1 x0 0 t0 true _ ?s1 ?s2 ?s3 ?s4 A19.out).mono ?_); (case s1 => exact cB_ HR0.out); (case s2 => exact HC0.out); (case s3 => exact cB_ HR1.out); (case s4 => exact HC1.out); rintro e w4 ⟨rfl, hb⟩; refine ⟨_, rfl, ?_⟩; replace B0 := a_ (bB_ B0.out hb); replace HB := a_ (below_step hC_ hb); (try clear hb); (try clear hb2); (try clear hk); (try clear hi); obtain ⟨z6, z7, f6, f7⟩ := bx2_ B0.out))
    refine bodyPost_ret (results_cell_row rfl _ _ g0 48 #[.int .i64 0, .int .i64 t0] (0, 0) _ rfl (bP_ (bP_ (hK_ B0.out))) Tryz.underlying48 rfl (by kernel_rfl)) rfl ?_
    exact ⟨hV_, hC_⟩
   replace c20 := Bool.eq_false_iff.mpr c20
   subst c20
   rw [if_neg (show ¬ (false = true) by decide)] at H
   replace H := Option.bind_eq_some_iff.mp H
   obtain ⟨⟨t5, t6⟩, A230, H⟩ := H
   try dsimp only at H
   have A23 := a_ A230
   clear A230
   simp only [Option.some.injEq, Prod.mk.injEq] at H
   obtain ⟨rfl, rfl⟩ := H
   go_wp2_with (first | ((with_reducible refine gate_callee (f := 50) rfl ?_); refine goesL_ (some 42) rfl rfl Tryz.func50 (by kernel_rfl) rfl #[.slice A0 l0.length c0, .slice (some d0) l1.length c1, .int .i64 x0, .int .i64 0] rfl hL_ ?_; (with_reducible refine (top_first.calls _ _ l0 _ _ l1 x0 0 t0 false _ ?s1 ?s2 ?s3 ?s4 A19.out).mono ?_); (case s1 => exact cB_ HR0.out); (case s2 => exact HC0.out); (case s3 => exact cB_ HR1.out); (case s4 => exact HC1.out); rintro e w6 ⟨rfl, hb⟩; refine ⟨_, rfl, ?_⟩; replace B0 := a_ (bB_ B0.out hb); replace HB := a_ (below_step hC_ hb); (try clear hb); (try clear hb2); (try clear hk); (try clear hi)) | ((with_reducible refine gate_callee (f := 49) rfl ?_); refine goesL_ (some 51) rfl rfl Tryz.func49 (by kernel_rfl) rfl #[.slice A0 l0.length c0, .slice (some d0) l1.length c1, .int .i64 x0] rfl hL_ ?_; (with_reducible refine (top_Bug.calls _ _ l0 _ _ l1 x0 t5 t6 _ ?s1 ?s2 ?s3 ?s4 A23.out).mono ?_); (case s1 => exact cB_ HR0.out); (case s2 => exact HC0.out); (case s3 => exact cB_ HR1.out); (case s4 => exact HC1.out); rintro e w7 ⟨rfl, hb⟩; refine ⟨_, rfl, ?_⟩; replace B0 := a_ (bB_ B0.out hb); replace HB := a_ (below_step hC_ hb); (try clear hb); (try clear hb2); (try clear hk); (try clear hi); obtain ⟨z8, z9, f8, f9⟩ := bx2_ B0.out))
   refine bodyPost_ret (results_cell_row rfl _ _ g0 48 #[.int .i64 t5, .int .i64 t6] (0, 0) _ rfl (bP_ (bP_ (hK_ B0.out))) Tryz.underlying48 rfl (by kernel_rfl)) rfl ?_
   exact ⟨hV_, hC_⟩
end Go.Proofs.YtijamgfpgdiigaaGreatDoor.G
end
section
namespace Go.Proofs.YtijamgfpgdiigaaGreatDoor.G
open Go.RowKit Go.Proofs.YtijamgfpgdiigaaGreatDoorW.PrintWords Go.Proofs.YtijamgfpgdiigaaGreatDoorW.PrintLast Go.Proofs.YtijamgfpgdiigaaGreatDoorW.PrintMore
set_option linter.unusedVariables false
set_option linter.unusedSimpArgs false
def oddB (x : Int) : Bool := decide (x < 0) || decide (3 < x)
def marksS (ns : List Nd) (ms : List Int) : Bool := mayT ns && (decide (ms.length = ns.length) && !ms.any oddB)
theorem marksS_spec {ns : List Nd} {ms : List Int} (h : marksS ns ms = true) : mayT ns = true ∧ ms.length = ns.length ∧ ∀ x ∈ ms, oddB x = false := by
  unfold marksS at h
  rw [Bool.and_eq_true, Bool.and_eq_true, decide_eq_true_iff, Bool.not_eq_true'] at h
  exact ⟨h.1, h.2.1, fun x hx => by have := List.any_eq_false.1 h.2.2 x hx; simpa using this⟩
theorem rd_mem {ms : List Int} (i : Nat) (h : i < ms.length) : rd ms (i : Int) ∈ ms := by
  show List.getD _ _ _ ∈ _
  rw [Int.toNat_natCast, List.getD_eq_getElem?_getD, List.getElem?_eq_getElem h]
  exact List.getElem_mem _
theorem marks_at {ns : List Nd} {ms : List Int} (h : marksS ns ms = true) (i : Nat) (hi : i < ns.length) : 0 ≤ rd ms (i : Int) ∧ rd ms (i : Int) ≤ 3 := by
  obtain ⟨_, hl, hx⟩ := marksS_spec h
  have := hx _ (rd_mem i (by omega))
  unfold oddB at this
  rw [Bool.or_eq_false_iff, decide_eq_false_iff_not, decide_eq_false_iff_not] at this
  omega
theorem fstK_spec {ns : List Nd} {ms : List Int} {a m k : Int} (h : fstK ns ms a m = some k) : a < k ∧ k < (ns.length : Int) ∧ (rn ns k).f1 = a ∧ rd ms k = m := by
  unfold fstK at h
  have h1 := kidsTo_rng ns a k ns.length (List.mem_of_find?_eq_some h)
  have h2 := List.find?_some h
  exact ⟨h1.1, h1.2.1, h1.2.2, by simpa using h2⟩
theorem first_eq {ns : List Nd} {ms : List Int} (h : marksS ns ms = true) (a m : Int) (h0 : 0 ≤ a) (h1 : a < (ns.length : Int)) : top_first.f ns ms a m = some (match fstK ns ms a m with | some k => (k, true) | none => (0, false)) := by
  obtain ⟨hm, hl, _⟩ := marksS_spec h
  have hlen := mayT_len hm
  unfold top_first.f
  rw [if_pos ⟨h0, h1, by omega, hlen.2⟩]
  cases fstK ns ms a m <;> rfl
theorem bug_eq {ns : List Nd} {ms : List Int} (h : marksS ns ms = true) (a : Int) (h0 : 0 ≤ a) (h1 : a < (ns.length : Int)) : top_Bug.f ns ms a = some (bugS ns ms a) := by
  obtain ⟨hm, hl, _⟩ := marksS_spec h
  have hlen := mayT_len hm
  unfold top_Bug.f
  rw [if_pos ⟨h0, h1, by omega, hlen.2⟩]
def downT (ns : List Nd) (ms : List Int) : Nat → Int → Int
  | 0, a => a
  | n + 1, a => match fstK ns ms a 2 with | some k => downT ns ms n k | none => a
def finT (ns : List Nd) (ms : List Int) (a : Int) : Int × Int := match fstK ns ms a 0 with | some k => (0, k) | none => bugS ns ms a
def askT (ns : List Nd) (ms : List Int) : Int × Int := if rd ms 0 = 0 then (0, 0) else if rd ms 0 = 1 then (2, 0) else if rd ms 0 = 3 then (3, 0) else finT ns ms (downT ns ms ns.length 0)
theorem ask_l0 {ns : List Nd} {ms : List Int} (h : marksS ns ms = true) : ∀ (n : Nat) (a : Int), 0 ≤ a → a < (ns.length : Int) → (ns.length : Int) ≤ a + n → ∀ p : Int × Bool, p = (match fstK ns ms a 2 with | some k => (k, true) | none => (0, false)) → Ev (fun q => top_Ask.l0 q ns ms a p.1 p.2) (finT ns ms (downT ns ms n a)) := by
  intro n
  induction n with
  | zero => intro a h0 h1 h2; omega
  | succ n ih =>
    intro a h0 h1 h2 p hp
    cases hf : fstK ns ms a 2 with
    | some k =>
      rw [hf] at hp
      subst hp
      have hk := fstK_spec hf
      have e : downT ns ms (n + 1) a = downT ns ms n k := by rw [downT, hf]
      rw [e]
      refine Ev.step (f := fun q => top_Ask.l0 q ns ms k (match fstK ns ms k 2 with | some k => (k, true) | none => (0, false)).1 (match fstK ns ms k 2 with | some k => (k, true) | none => ((0 : Int), false)).2) (fun q => ?_) (ih k (by omega) hk.2.1 (by omega) _ rfl)
      rw [top_Ask.l0]
      simp only [if_pos, first_eq h k 2 (by omega) hk.2.1, Option.bind_some]
    | none =>
      rw [hf] at hp
      subst hp
      have e : downT ns ms (n + 1) a = a := by rw [downT, hf]
      rw [e]
      refine Ev.step (f := fun _ => some (finT ns ms a)) (fun q => ?_) (Ev.now _)
      rw [top_Ask.l0]
      simp only [if_neg Bool.false_ne_true, first_eq h a 0 h0 h1, Option.bind_some, bug_eq h a h0 h1]
      unfold finT
      cases fstK ns ms a 0 with
      | some k => simp only [if_pos]
      | none => simp only [if_neg Bool.false_ne_true]
theorem ask_ev {ns : List Nd} {ms : List Int} (h : marksS ns ms = true) : Ev (fun k => top_Ask.f k ns ms) (askT ns ms) := by
  obtain ⟨hm, hl, _⟩ := marksS_spec h
  have hlen := mayT_len hm
  unfold top_Ask.f askT
  have g : (0 : Int) < (ms.length : Int) := by omega
  simp only [if_pos g]
  by_cases c0 : rd ms 0 = 0
  · simp only [if_pos c0]; exact Ev.now _
  · simp only [if_neg c0]
    by_cases c1 : rd ms 0 = 1
    · simp only [if_pos c1]; exact Ev.now _
    · simp only [if_neg c1]
      by_cases c3 : rd ms 0 = 3
      · simp only [if_pos c3]; exact Ev.now _
      · simp only [if_neg c3, first_eq h 0 2 (by omega) (by omega), Option.bind_some]
        exact ask_l0 h ns.length 0 (by omega) (by omega) (by omega) _ rfl
theorem downT_spec {ns : List Nd} {ms : List Int} : ∀ (n : Nat) (a : Int), 0 ≤ a → a < (ns.length : Int) → (ns.length : Int) ≤ a + n → rd ms a = 2 → 0 ≤ downT ns ms n a ∧ downT ns ms n a < (ns.length : Int) ∧ rd ms (downT ns ms n a) = 2
  | 0, a, h0, h1, h2, _ => by omega
  | n + 1, a, h0, h1, h2, h3 => by
    rw [downT]
    cases hf : fstK ns ms a 2 with
    | some k =>
      have hk := fstK_spec hf
      exact downT_spec n k (by omega) hk.2.1 (by omega) hk.2.2.2
    | none => exact ⟨h0, h1, h3⟩
end Go.Proofs.YtijamgfpgdiigaaGreatDoor.G
end
section
namespace Go.Proofs.YtijamgfpgdiigaaGreatDoor.G
open Go.RowKit Go.Proofs.YtijamgfpgdiigaaGreatDoorW.PrintWords Go.Proofs.YtijamgfpgdiigaaGreatDoorW.PrintLast Go.Proofs.YtijamgfpgdiigaaGreatDoorW.PrintMore
set_option maxHeartbeats 8000000
set_option maxRecDepth 100000
attribute [local go_sem] max2_int min2_int max_two min_two max_three min_three max_four min_four   -- for this text's walks alone
set_option linter.unusedVariables false
set_option linter.unusedSimpArgs false

def half_last.l0 : Nat → Int → List Int → Int → Int → Option (Int)
 | 0, _, _, _, _ => none
 | k + 1, x3, x6, x7, x8 => if x8 < x7 then (if 0 ≤ x8 then (if x8 < (x6.length : Int) then (if (rd x6 x8) = 2 then (half_last.l0 k x8 x6 x7 (wrap64 (x8 + 1))) else (half_last.l0 k x3 x6 x7 (wrap64 (x8 + 1)))) else (none)) else (none)) else (some x3)
def half_last.f (k : Nat) (l0 : List Int) : Option (Int) := half_last.l0 k 0 l0 (l0.length : Int) 0
theorem half_last.calls (k : Nat) (A0 : Option Addr) (c0 : Nat) (l0 : List Int) (r : Int) (w : World) (hr0 : Kd.C (Kd.int .i64) w A0 l0.length l0) (hc0 : l0.length ≤ c0) (h : half_last.f k l0 = some r) :
 Calls Tryz.prog 43 #[.slice A0 l0.length c0] w fun e w' => e = .returned (.int .i64 r) ∧ Drawn0 w w' := by
 have HR0 := a_ hr0
 have HC0 := a_ hc0
 clear hr0 hc0
 have H : (half_last.l0 k 0 l0 (l0.length : Int) 0) = some r := h
 clear h
 have H' := a_ H
 clear H
 go_enter Tryz.func43, Tryz.ntmps43
 go_wp2
 go_loopg [3, 8] k (fun kq v3 v8 w' => ∃ (x1 : Int) (x0 : Int), v3 = .int .i64 x1 ∧ v8 = .int .i64 x0 ∧ Aside0 (half_last.l0 kq x1 l0 (l0.length : Int) x0 = some r) ∧ Aside0 (kq ≤ k) ∧ Drawn0 w w')
 case atStart => exact ⟨(0), (0), hW_, hW_, H', ⟨Nat.le_refl _⟩, by repeat (first | exact Drawn0.refl _ | apply Drawn0.step)⟩
 case round =>
  clear H'
  obtain ⟨x1, x0, rfl, rfl, HA, HK1, ⟨m1, rfl⟩⟩ := hrel
  cases gk with
  | zero => exact absurd HA.out (by simp [half_last.l0])
  | succ k1 =>
   have H := HA.out
   clear HA
   simp only [half_last.l0] at H
   by_cases c2 : x0 < (l0.length : Int)
   case neg =>
    rw [if_neg c2] at H
    have c2b0 : decide (x0 < (l0.length : Int)) = false := decide_eq_false c2
    clear c2
    obtain rfl := Option.some.inj H
    go_wp2
    go_ret
    exact ⟨by first | rfl | (simp; done) | (simp [*]; done), by repeat (first | exact Drawn0.refl _ | apply Drawn0.step)⟩

   rw [if_pos c2] at H
   have c2b0 : decide (x0 < (l0.length : Int)) = true := decide_eq_true c2
   clear c2
   replace H := ifI_ H; obtain ⟨c3, H⟩ := H
   have c3b0 : decide (0 ≤ x0) = true := decide_eq_true c3
   clear c3
   replace H := ifI_ H; obtain ⟨c4, H⟩ := H
   have c4b0 : decide (x0 < (l0.length : Int)) = true := decide_eq_true c4
   clear c4
   by_cases c5 : (rd l0 x0) = 2
   case neg =>
    rw [if_neg c5] at H
    have c5b0 : ((rd l0 x0) == 2) = false := beq_eq_false_iff_ne.mpr c5
    have c5b1 : ((rd l0 x0) != 2) = true := bne_iff_ne.mpr c5
    have H' := a_ H
    clear H
    have p314 : 0 ≤ (x0 : Int) := of_decide_eq_true hA_
    have q314 : x0 < (l0.length : Int) := of_decide_eq_true hA_
    obtain ⟨d0, e314, h0⟩ := Kd.at_int HR0.out x0 p314 q314
    cases e314
    replace p314 := eq_true p314
    replace q314 := eq_true q314
    go_wp2
    go_roundg k1
    case measure => have := HK1.out; omega
    case rel => exact ⟨(x1), (wrap64 (x0 + 1)), hW_, hW_, H', ⟨by have := HK1.out; omega⟩, by repeat (first | exact Drawn0.refl _ | apply Drawn0.step)⟩
   rw [if_pos c5] at H
   have c5b0 : ((rd l0 x0) == 2) = true := beq_iff_eq.mpr c5
   have c5b1 : ((rd l0 x0) != 2) = false := bne_eq_false_iff_eq.mpr c5
   clear c5
   have H' := a_ H
   clear H
   have p314 : 0 ≤ (x0 : Int) := of_decide_eq_true hA_
   have q314 : x0 < (l0.length : Int) := of_decide_eq_true hA_
   obtain ⟨d0, e314, h0⟩ := Kd.at_int HR0.out x0 p314 q314
   cases e314
   replace p314 := eq_true p314
   replace q314 := eq_true q314
   go_wp2
   go_roundg k1
   case measure => have := HK1.out; omega
   case rel => exact ⟨(x0), (wrap64 (x0 + 1)), hW_, hW_, H', ⟨by have := HK1.out; omega⟩, by repeat (first | exact Drawn0.refl _ | apply Drawn0.step)⟩
end Go.Proofs.YtijamgfpgdiigaaGreatDoor.G
end
