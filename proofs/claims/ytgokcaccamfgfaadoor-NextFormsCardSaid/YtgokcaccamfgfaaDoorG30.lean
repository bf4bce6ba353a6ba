-- Laid by the session's own driver gp.py over the kit's printer. Not trusted: Lean checks it.
import Derived.Test.YtgokcaccamfgfaaDoorU2
import Derived.Test.YtgokcaccamfgfaaDoorG0
import Derived.Test.YtgokcaccamfgfaaDoorU7
import Derived.Test.YtgokcaccamfgfaaDoorU6
namespace Go.Proofs.YtgokcaccamfgfaaDoor.G
open Go.RowKit Go.Proofs.YtgokcaccamfgfaaDoorW.PrintWords Go.Proofs.YtgokcaccamfgfaaDoorW.PrintLast Go.Proofs.YtgokcaccamfgfaaDoorW.PrintMore
set_option maxHeartbeats 8000000
set_option maxRecDepth 100000
attribute [local go_sem] max2_int min2_int max_two min_two max_three min_three max_four min_four   -- for this text's walks alone
set_option linter.unusedVariables false
set_option linter.unusedSimpArgs false

attribute [local go_sem high] eqA39
mutual
def sleuthlaw20_NextForms.j1 : Nat → Bool → List (S33) → Int → List (S26) → Option (Bool)
 | 0, _, _, _, _ => none
 | k + 1, x7, x235000, x235001, x235002 => (next_Marks.f k x235000 x235001 x235002).bind fun bt248 => ((next_Step.f k x235000 x235001 x235002).bind fun bt252 => (if x7 = true then ((sleuthlaw0_Num.f bt248.2).bind fun t256 => (if t256 = 0 then (if (bt248.1.length : Int) = 5 then (if (bt252.1 == 0 && (bt252.2.1 == 0)) = true then ((sleuthlaw0_Num.f bt252.2.2).bind fun t257 => (some (t257 == 2000))) else (none)) else (none)) else (none))) else (if (bt248.1.length : Int) = 0 then ((sleuthlaw0_Num.f bt248.2).bind fun t258 => (if t258 = 2000 then (if (bt252.1 == 0 && (bt252.2.1 == 0)) = true then ((sleuthlaw0_Num.f bt252.2.2).bind fun t259 => (some (t259 == 2000))) else (none)) else (none))) else (none))))
def sleuthlaw20_NextForms.l0 : Nat → Bool → Int → List (S33) → Int → List (S26) → Option (Bool)
 | 0, _, _, _, _, _ => none
 | k + 1, x7, x8, x235000, x235001, x235002 => if x8 < (x235002.length : Int) then (if 0 ≤ x8 then (sleuthlaw20_NextForms.l0 k x7 (wrap64 (x8 + 1)) x235000 x235001 (x235002.set (x8 : Int).toNat (⟨(rd_T26 x235002 x8).f0, 1⟩ : S26))) else (none)) else (sleuthlaw20_NextForms.j1 k x7 x235000 x235001 x235002)
end
def sleuthlaw20_NextForms.f (k : Nat) (a0 : Int) (a1 : Int) : Option (Bool) := (sleuthlaw20_awake.f k).bind fun t227 => (if t227 = true then ((sleuthlaw20_some.f).bind fun t228 => ((some (([(⟨0, 2⟩ : S26), (⟨1, 1⟩ : S26)] : List (S26)) : List (S26))).bind fun y231 => (if (Int.tmod (IntKind.u64.wrap (a0)) 9) = 0 then (sleuthlaw20_NextForms.j1 k false ([] : List (S33)) 0 y231) else (if (Int.tmod (IntKind.u64.wrap (a0)) 9) = 1 then (if 1 < (t228.length : Int) then (sleuthlaw20_NextForms.j1 k false (t228.set (1 : Int).toNat (⟨(rd_T33 t228 1).f0, 1, (rd_T33 t228 1).f2, (rd_T33 t228 1).f3⟩ : S33)) 0 y231) else (none)) else (if (Int.tmod (IntKind.u64.wrap (a0)) 9) = 2 then (if 0 ≤ (wrap64 (512 + (wrap64 (1 + (Go.bits .and .i64 a1 1023))))) then (if (wrap64 (512 + (wrap64 (1 + (Go.bits .and .i64 a1 1023)))) : Int).toNat ≤ 17592186044416 then (sleuthlaw20_NextForms.l0 k false 0 t228 0 (List.replicate (wrap64 (512 + (wrap64 (1 + (Go.bits .and .i64 a1 1023)))) : Int).toNat z26)) else (none)) else (none)) else (if (Int.tmod (IntKind.u64.wrap (a0)) 9) = 3 then (if 1 < (y231.length : Int) then (sleuthlaw20_NextForms.j1 k false t228 0 (y231.set (1 : Int).toNat (⟨wrap64 (-(wrap64 (1 + (Go.bits .and .i64 a1 1023)))), (rd_T26 y231 1).f1⟩ : S26))) else (none)) else (if (Int.tmod (IntKind.u64.wrap (a0)) 9) = 4 then (if 1 < (y231.length : Int) then (sleuthlaw20_NextForms.j1 k false t228 0 (y231.set (1 : Int).toNat (⟨wrap64 (4 + (wrap64 (1 + (Go.bits .and .i64 a1 1023)))), (rd_T26 y231 1).f1⟩ : S26))) else (none)) else (if (Int.tmod (IntKind.u64.wrap (a0)) 9) = 5 then (if 1 < (y231.length : Int) then (sleuthlaw20_NextForms.j1 k false t228 0 (y231.set (1 : Int).toNat (⟨(rd_T26 y231 1).f0, wrap64 (1 - (wrap64 (1 + (Go.bits .and .i64 a1 1023))))⟩ : S26))) else (none)) else (if (Int.tmod (IntKind.u64.wrap (a0)) 9) = 6 then (if 1 < (y231.length : Int) then (sleuthlaw20_NextForms.j1 k false t228 0 (y231.set (1 : Int).toNat (⟨(rd_T26 y231 1).f0, wrap64 (3 + (wrap64 (1 + (Go.bits .and .i64 a1 1023))))⟩ : S26))) else (none)) else ((some (([wrap64 (-(wrap64 (1 + (Go.bits .and .i64 a1 1023)))), wrap64 (1 + (wrap64 (1 + (Go.bits .and .i64 a1 1023))))] : List Int) : List Int)).bind fun y244 => (if 0 ≤ (Go.bits .and .i64 a0 1) then (if (Go.bits .and .i64 a0 1) < (y244.length : Int) then (sleuthlaw20_NextForms.j1 k true t228 (rd y244 (Go.bits .and .i64 a0 1)) y231) else (none)) else (none)))))))))))) else (none))
theorem sleuthlaw20_NextForms.mono_l : ∀ k, (∀ y0 y1 y2 y3, LeO (sleuthlaw20_NextForms.j1 k y0 y1 y2 y3) (sleuthlaw20_NextForms.j1 (k + 1) y0 y1 y2 y3)) ∧ (∀ y0 y1 y2 y3 y4, LeO (sleuthlaw20_NextForms.l0 k y0 y1 y2 y3 y4) (sleuthlaw20_NextForms.l0 (k + 1) y0 y1 y2 y3 y4))
 | 0 => ⟨fun _ _ _ _ r h => by simp [sleuthlaw20_NextForms.j1] at h, fun _ _ _ _ _ r h => by simp [sleuthlaw20_NextForms.l0] at h⟩
 | k + 1 => by
  obtain ⟨ih0, ih1⟩ := sleuthlaw20_NextForms.mono_l k
  refine ⟨?_, ?_⟩
  · intro y0 y1 y2 y3
    unfold sleuthlaw20_NextForms.j1
    repeat' first
    | (with_reducible exact ih0 _ _ _ _)
    | (with_reducible exact ih1 _ _ _ _ _)
    | (with_reducible exact next_Marks.mono _ _ _ _)
    | (with_reducible exact next_Step.mono _ _ _ _)
    | (with_reducible exact sleuthlaw20_awake.mono _)
    | (with_reducible exact LeO.refl _)
    | (with_reducible exact LeO.none _)
    | (with_reducible refine LeO.ite ?_ ?_)
    | (with_reducible refine LeO.bind ?_ (fun _ => ?_))
    | exact ih0 _ _ _ _
    | exact ih1 _ _ _ _ _
    | exact next_Marks.mono _ _ _ _
    | exact next_Step.mono _ _ _ _
    | exact sleuthlaw20_awake.mono _
    | exact LeO.none _
    | refine LeO.ite ?_ ?_
    | refine LeO.bind ?_ (fun _ => ?_)
  · intro y0 y1 y2 y3 y4
    unfold sleuthlaw20_NextForms.l0
    repeat' first
    | (with_reducible exact ih0 _ _ _ _)
    | (with_reducible exact ih1 _ _ _ _ _)
    | (with_reducible exact next_Marks.mono _ _ _ _)
    | (with_reducible exact next_Step.mono _ _ _ _)
    | (with_reducible exact sleuthlaw20_awake.mono _)
    | (with_reducible exact LeO.refl _)
    | (with_reducible exact LeO.none _)
    | (with_reducible refine LeO.ite ?_ ?_)
    | (with_reducible refine LeO.bind ?_ (fun _ => ?_))
    | exact ih0 _ _ _ _
    | exact ih1 _ _ _ _ _
    | exact next_Marks.mono _ _ _ _
    | exact next_Step.mono _ _ _ _
    | exact sleuthlaw20_awake.mono _
    | exact LeO.none _
    | refine LeO.ite ?_ ?_
    | refine LeO.bind ?_ (fun _ => ?_)
theorem sleuthlaw20_NextForms.mono : ∀ a0 a1 k, LeO (sleuthlaw20_NextForms.f k a0 a1) (sleuthlaw20_NextForms.f (k + 1) a0 a1) := by
 intro a0 a1 k
 obtain ⟨ih0, ih1⟩ := sleuthlaw20_NextForms.mono_l k
 unfold sleuthlaw20_NextForms.f
 repeat' first
  | (with_reducible exact ih0 _ _ _ _)
  | (with_reducible exact ih1 _ _ _ _ _)
  | (with_reducible exact next_Marks.mono _ _ _ _)
  | (with_reducible exact next_Step.mono _ _ _ _)
  | (with_reducible exact sleuthlaw20_awake.mono _)
  | (with_reducible exact LeO.refl _)
  | (with_reducible exact LeO.none _)
  | (with_reducible refine LeO.ite ?_ ?_)
  | (with_reducible refine LeO.bind ?_ (fun _ => ?_))
  | exact ih0 _ _ _ _
  | exact ih1 _ _ _ _ _
  | exact next_Marks.mono _ _ _ _
  | exact next_Step.mono _ _ _ _
  | exact sleuthlaw20_awake.mono _
  | exact LeO.none _
  | refine LeO.ite ?_ ?_
  | refine LeO.bind ?_ (fun _ => ?_)
theorem sleuthlaw20_NextForms.calls (k : Nat) (a0 : Int) (a1 : Int) (r : Bool) (w : World) (h : sleuthlaw20_NextForms.f k a0 a1 = some r) (hG : GOK w) :
 Calls Tryd.prog 3 #[.int .i64 a0, .int .i64 a1] w fun e w' => e = .returned (.bool r) ∧ Below w.heap.size w w' := by
 have hu26 := Tryd.underlying26
 have hu29 := Tryd.underlying29
 have hu39 := Tryd.underlying39
 have HB := a_ (Below.refl w.heap.size w)
 have H := h; unfold sleuthlaw20_NextForms.f at H
 clear h
 replace H := Option.bind_eq_some_iff.mp H
 obtain ⟨t227, A30, H⟩ := H
 try dsimp only at H
 have A3 := a_ A30
 clear A30
 by_cases c4 : t227 = true
 case neg =>
  replace c4 := Bool.eq_false_iff.mpr c4
  subst c4
  rw [if_neg (show ¬ (false = true) by decide)] at H
  cases H
 subst c4
 rw [if_pos rfl] at H
 replace H := Option.bind_eq_some_iff.mp H
 obtain ⟨t228, A50, H⟩ := H
 try dsimp only at H
 have A5 := a_ A50
 clear A50
 obtain ⟨y231, hy231⟩ : ∃ y_ : List (S26), y_ = (([(⟨0, 2⟩ : S26), (⟨1, 1⟩ : S26)] : List (S26))) := ⟨_, rfl⟩
 replace H : (if (Int.tmod (IntKind.u64.wrap (a0)) 9) = 0 then (sleuthlaw20_NextForms.j1 k false ([] : List (S33)) 0 y231) else (if (Int.tmod (IntKind.u64.wrap (a0)) 9) = 1 then (if 1 < (t228.length : Int) then (sleuthlaw20_NextForms.j1 k false (t228.set (1 : Int).toNat (⟨(rd_T33 t228 1).f0, 1, (rd_T33 t228 1).f2, (rd_T33 t228 1).f3⟩ : S33)) 0 y231) else (none)) else (if (Int.tmod (IntKind.u64.wrap (a0)) 9) = 2 then (if 0 ≤ (wrap64 (512 + (wrap64 (1 + (Go.bits .and .i64 a1 1023))))) then (if (wrap64 (512 + (wrap64 (1 + (Go.bits .and .i64 a1 1023)))) : Int).toNat ≤ 17592186044416 then (sleuthlaw20_NextForms.l0 k false 0 t228 0 (List.replicate (wrap64 (512 + (wrap64 (1 + (Go.bits .and .i64 a1 1023)))) : Int).toNat z26)) else (none)) else (none)) else (if (Int.tmod (IntKind.u64.wrap (a0)) 9) = 3 then (if 1 < (y231.length : Int) then (sleuthlaw20_NextForms.j1 k false t228 0 (y231.set (1 : Int).toNat (⟨wrap64 (-(wrap64 (1 + (Go.bits .and .i64 a1 1023)))), (rd_T26 y231 1).f1⟩ : S26))) else (none)) else (if (Int.tmod (IntKind.u64.wrap (a0)) 9) = 4 then (if 1 < (y231.length : Int) then (sleuthlaw20_NextForms.j1 k false t228 0 (y231.set (1 : Int).toNat (⟨wrap64 (4 + (wrap64 (1 + (Go.bits .and .i64 a1 1023)))), (rd_T26 y231 1).f1⟩ : S26))) else (none)) else (if (Int.tmod (IntKind.u64.wrap (a0)) 9) = 5 then (if 1 < (y231.length : Int) then (sleuthlaw20_NextForms.j1 k false t228 0 (y231.set (1 : Int).toNat (⟨(rd_T26 y231 1).f0, wrap64 (1 - (wrap64 (1 + (Go.bits .and .i64 a1 1023))))⟩ : S26))) else (none)) else (if (Int.tmod (IntKind.u64.wrap (a0)) 9) = 6 then (if 1 < (y231.length : Int) then (sleuthlaw20_NextForms.j1 k false t228 0 (y231.set (1 : Int).toNat (⟨(rd_T26 y231 1).f0, wrap64 (3 + (wrap64 (1 + (Go.bits .and .i64 a1 1023))))⟩ : S26))) else (none)) else ((some (([wrap64 (-(wrap64 (1 + (Go.bits .and .i64 a1 1023)))), wrap64 (1 + (wrap64 (1 + (Go.bits .and .i64 a1 1023))))] : List Int) : List Int)).bind fun y244 => (if 0 ≤ (Go.bits .and .i64 a0 1) then (if (Go.bits .and .i64 a0 1) < (y244.length : Int) then (sleuthlaw20_NextForms.j1 k true t228 (rd y244 (Go.bits .and .i64 a0 1)) y231) else (none)) else (none)))))))))) = some r := by first | (rw [hy231]; with_reducible exact H) | (have H2_ := (Option.bind_some _ _).symm.trans H; rw [hy231]; with_reducible exact H2_) | (have H2_ := (Option.bind_some _ _).symm.trans H; with_reducible exact H2_) | with_reducible exact H | (rw [hy231]; exact H) | exact H
 have Ny231 := a_ hy231
 clear hy231
 have HC6 := a_ H
 clear H
 go_enter Tryd.func3, Tryd.ntmps3
 go_upto_block 0 with (first | ((with_reducible refine gate_callee (f := 7) rfl ?_); refine goesL_ (some 13) rfl rfl Tryd.func7 (by kernel_rfl) rfl #[] rfl hL_ ?_; (with_reducible refine (sleuthlaw20_awake.calls k  true _ A3.out hG_).mono ?_); rintro e w7 ⟨rfl, hb⟩; refine ⟨_, rfl, ?_⟩; replace HB := a_ (below_step hB_ hb); (try clear hb); (try clear hb2); (try clear hk); (try clear hi)) | ((with_reducible refine gate_callee (f := 8) rfl ?_); refine goesL_ (some 18) rfl rfl Tryd.func8 (by kernel_rfl) rfl #[] rfl hL_ ?_; (with_reducible refine (sleuthlaw20_some.calls  t228 _ A5.out).mono ?_); rintro e w8 ⟨v229, rfl, ho0, hb⟩; refine ⟨_, rfl, ?_⟩; have HO230 := a_ (Kd.N_lower (Kd.N_mono (ok' := fun k_ => True) ho0 (fun k_ hk_ => trivial)) hS_); replace HB := a_ (below_step hB_ hb); (try clear hb); (try clear hb2); (try clear hk); (try clear hi); (try clear ho0)) | ((with_reducible refine gate_dst (N := 21) rfl ?_); (try (refine gate_guard (by rfl) ?_; dsimp only)); refine Kd.R_lit k26 _ 26 ?hg (N := 21) ?hd (xs := ([(⟨0, 2⟩ : S26), (⟨1, 1⟩ : S26)] : List (S26))) (inner := [.int .i64 0, .int .i64 2, .int .i64 1, .int .i64 1]) (ok := fun _ => True) (okp := fun _ => True) ?hr ?hp (fun _ hk => hk) trivial (Below.refl _ _) (Nat.le_refl _) (by simp) ?_; (case hd => rfl); (case hg => rfl); (case hr => first | (go_simp; done) | (go_simp; rfl)); (case hp => exact (Reps.c2 (show Kd.M k26 _ _ _ (⟨0, 2⟩ : S26) [.int .i64 0, .int .i64 2] from (k26_mkM _ _ _ (⟨0, 2⟩ : S26) )) (Reps.c2 (show Kd.M k26 _ _ _ (⟨1, 1⟩ : S26) [.int .i64 1, .int .i64 1] from (k26_mkM _ _ _ (⟨1, 1⟩ : S26) )) (Reps.none _ _)))); intro v232 w9 ho10 hb hg_ hnew_; clear hg_ hnew_; (first | rw [← Ny231.out] at ho10 | (simp only [Int.reduceToNat] at ho10; rw [← Ny231.out] at ho10)); replace HO230 := a_ (Kd.N_elder' (hN_ HO230.out) (Kd.R_base ho10) hb); have HO233 := a_ (Kd.R_lower ho10 hS_); replace HB := a_ (below_step hB_ hb); clear hb ho10; obtain ⟨Ao11, co11, eo11⟩ := Kd.R_slice HO233.out; subst eo11; obtain ⟨Ao12, co12, eo12⟩ := Kd.N_slice HO230.out; subst eo12) | ((with_reducible refine gate_dst (N := 6) rfl ?_); (try (refine gate_guard (by rfl) ?_; dsimp only)); refine boxE_ 6 #[.slice none 0 0, .int .i64 0, .slice none 0 0] 29 ?_; intro gb234 hg w13 hbox hb; replace HO230 := a_ (Kd.N_below (Kd.N_elderB (hN_ HO230.out) gb234 (Nat.le_of_eq hg.symm)) hb); replace HO233 := a_ (Kd.R_below (hR_ HO233.out) hb); have BK234 := a_ (hbox); have GW234 := a_ ((gE_ hg : w.heap.size ≤ gb234)); have GE234 := a_ ((gE_ hg : w.heap.size ≤ gb234)); replace HB := a_ (below_step hB_ hb); clear hb hbox hg; obtain ⟨hcz14_0, hcz14_1, hcz14_2, hfz14_0, hfz14_1, hfz14_2⟩ := bx3_ BK234.out) | ((with_reducible refine gate_store (t := 29) (p := 6) rfl ?_); refine store_event (t := 29) (p := 6) (v := ?vo_w15) (w1 := (((w13.setCell ⟨gb234, 0, none⟩ (.slice Ao12 t228.length co12)).setCell ⟨gb234, 1, none⟩ (.int .i64 0)).setCell ⟨gb234, 2, none⟩ (.slice Ao11 y231.length co11))) ?hg ?ho ?hn ?hr ?_; (case ho => rfl); (case hg => rfl); (case hn => rfl); (case hr => first | (go_simp; done) | (go_simp; rfl)); intro w15 hw; replace HO230 : Aside0 (Kd.N k33 33 w15 w.heap.size (fun k_ => some k_ ≠ (.slice Ao11 y231.length co11 : Value).ownBlock ∧ k_ ≠ gb234) (.slice Ao12 t228.length co12) t228) := ⟨(by rw [hw]; exact (by (with_reducible repeat (first | apply Kd.N_alloc | apply Kd.N_drewN | apply Kd.N_drew)); exact Kd.N_mono (nF_ (nF_ (nF_ (Kd.N_mono HO230.out (fun k_ hk => (⟨hk, hk.2⟩ : _ ∧ k_ ≠ gb234)))))) (fun _ hk => ⟨hk.1.1.2, hk.1.2⟩)))⟩; replace HO233 : Aside0 (Kd.R k26 26 w15 w.heap.size (fun _ => True) (.slice Ao11 y231.length co11) y231) := ⟨(by rw [hw]; exact (by (with_reducible repeat (first | apply Kd.R_alloc | apply Kd.R_drewN | apply Kd.R_drew)); exact Kd.R_mono (rF_ (rF_ (rF_ (Kd.R_types HO233.out BK234.out (by decide))))) (fun _ hk => trivial)))⟩; replace BK234 : Aside0 (w15.heap[gb234]? = some (.cells #[.slice Ao12 t228.length co12, .int .i64 0, .slice Ao11 y231.length co11] 29 (0, 0))) := ⟨(by rw [hw]; exact (bP_ (bP_ (bP_ (hK_ BK234.out)))))⟩; replace HB : Aside0 (Below w.heap.size w w15) := ⟨(by rw [hw]; exact hC_)⟩; clear hw))
 (try simp only [Act.put, List.setIfInBounds_toArray, List.set_cons_zero, List.set_cons_succ])
 go_cut [7] (fun v7 wc => ∃ (kq : Nat) (x7_5 : Bool) (x235000_5 : List (S33)) (x235001_5 : Int) (x235002_5 : List (S26)) (u235000 : Value) (u235002 : Value), v7 = .bool x7_5 ∧ Aside0 (sleuthlaw20_NextForms.j1 kq x7_5 x235000_5 x235001_5 x235002_5 = some r) ∧ Aside0 (kq ≤ k) ∧ Aside0 (Kd.N k33 33 wc w.heap.size (fun k_ => some k_ ≠ (u235002 : Value).ownBlock ∧ k_ ≠ gb234) u235000 x235000_5) ∧ Aside0 (Kd.R k26 26 wc w.heap.size (fun _ => True) u235002 x235002_5) ∧ Aside0 (wc.heap[gb234]? = some (.cells #[u235000, .int .i64 x235001_5, u235002] 29 (0, 0))) ∧ Aside0 (Below w.heap.size w wc))
 case first =>
  have H := HC6.out
  clear HC6
  by_cases c16 : (Int.tmod (IntKind.u64.wrap (a0)) 9) = 0
  case pos =>
   rw [if_pos c16] at H
   have c16b0 : ((Int.tmod (IntKind.u64.wrap (a0)) 9) == 0) = true := beq_iff_eq.mpr c16
   have c16b1 : ((Int.tmod (IntKind.u64.wrap (a0)) 9) != 0) = false := bne_eq_false_iff_eq.mpr c16
   clear c16
   (first | rw [c16b0] | (simp only [i64_w, i32_w]; rw [c16b0]) | skip)
   have H' := a_ H
   clear H
   obtain ⟨hcz17_0, hcz17_1, hcz17_2, hfz17_0, hfz17_1, hfz17_2⟩ := bx3_ BK234.out
   go_wp2_with (first | ((with_reducible refine gate_store (t := 23) (p := 38) rfl ?_); refine store_event (t := 23) (p := 38) (v := ?vo_w18) (w1 := (w15.setCell ⟨gb234, 0, none⟩ (.slice none 0 0))) ?hg ?ho ?hn ?hr ?_; (case ho => rfl); (case hg => rfl); (case hn => rfl); (case hr => first | (go_simp; done) | (go_simp; rfl)); intro w18 hw; replace HO230 : Aside0 (Kd.N k33 33 w18 w.heap.size (fun k_ => some k_ ≠ (.slice Ao11 y231.length co11 : Value).ownBlock ∧ k_ ≠ gb234) (.slice Ao12 t228.length co12) t228) := ⟨(by rw [hw]; exact (by (with_reducible repeat (first | apply Kd.N_alloc | apply Kd.N_drewN | apply Kd.N_drew)); exact Kd.N_mono (nF_ (Kd.N_mono HO230.out (fun k_ hk => (⟨hk, hk.2⟩ : _ ∧ k_ ≠ gb234)))) (fun _ hk => ⟨hk.1.1, hk.1.2⟩)))⟩; replace HO233 : Aside0 (Kd.R k26 26 w18 w.heap.size (fun _ => True) (.slice Ao11 y231.length co11) y231) := ⟨(by rw [hw]; exact (by (with_reducible repeat (first | apply Kd.R_alloc | apply Kd.R_drewN | apply Kd.R_drew)); exact Kd.R_mono (rF_ (Kd.R_types HO233.out BK234.out (by decide))) (fun _ hk => trivial)))⟩; replace BK234 : Aside0 (w18.heap[gb234]? = some (.cells #[.slice none 0 0, .int .i64 0, .slice Ao11 y231.length co11] 29 (0, 0))) := ⟨(by rw [hw]; exact (bP_ (hK_ BK234.out)))⟩; replace HB : Aside0 (Below w.heap.size w w18) := ⟨(by rw [hw]; exact hC_)⟩; clear hw))
   go_meet
   case rel => exact ⟨_, (false), (([] : List (S33))), (0), (y231), (.slice none 0 0), (.slice Ao11 y231.length co11), hW_, H', ⟨by first | omega | exact Nat.le_refl _⟩, ⟨by first | exact Kd.S_nil _ _ _ _ _ | exact Kd.N_nil _ _ _ _ _ | exact Kd.V_nil _ _ _ _ _ | exact Kd.Q_nil _ _ _ _ _ | exact Kd.R_nil _ _ _ _ _⟩, ⟨hR_ HO233.out⟩, ⟨(hK_ BK234.out)⟩, ⟨hC_⟩⟩
  rw [if_neg c16] at H
  have c16b0 : ((Int.tmod (IntKind.u64.wrap (a0)) 9) == 0) = false := beq_eq_false_iff_ne.mpr c16
  have c16b1 : ((Int.tmod (IntKind.u64.wrap (a0)) 9) != 0) = true := bne_iff_ne.mpr c16
  (first | rw [c16b0] | (simp only [i64_w, i32_w]; rw [c16b0]) | skip)
  by_cases c19 : (Int.tmod (IntKind.u64.wrap (a0)) 9) = 1
  case pos =>
   rw [if_pos c19] at H
   have c19b0 : ((Int.tmod (IntKind.u64.wrap (a0)) 9) == 1) = true := beq_iff_eq.mpr c19
   have c19b1 : ((Int.tmod (IntKind.u64.wrap (a0)) 9) != 1) = false := bne_eq_false_iff_eq.mpr c19
   clear c19
   replace H := ifI_ H; obtain ⟨c20, H⟩ := H
   have c20b0 : decide (1 < (t228.length : Int)) = true := decide_eq_true c20
   have c20b1 : decide (1 < t228.length) = true := decide_eq_true (by omega)
   clear c20
   obtain ⟨y235, hy235⟩ : ∃ y_ : List (S33), y_ = (t228.set (1 : Int).toNat (⟨(rd_T33 t228 1).f0, 1, (rd_T33 t228 1).f2, (rd_T33 t228 1).f3⟩ : S33)) := ⟨_, rfl⟩
   replace H : (sleuthlaw20_NextForms.j1 k false y235 0 y231) = some r := by first | (rw [hy235]; with_reducible exact H) | (have H2_ := (Option.bind_some _ _).symm.trans H; rw [hy235]; with_reducible exact H2_) | (have H2_ := (Option.bind_some _ _).symm.trans H; with_reducible exact H2_) | with_reducible exact H | (rw [hy235]; exact H) | exact H
   have Ny235 := a_ hy235
   clear hy235
   have H' := a_ H
   clear H
   obtain ⟨hcz22_0, hcz22_1, hcz22_2, hfz22_0, hfz22_1, hfz22_2⟩ := bx3_ BK234.out
   have p21 : 0 ≤ (1 : Int) := (by omega)
   have q21 : (1 : Int) < ((t228.length : Int) : Int) := of_decide_eq_true hA_
   have qi21 : (1 < t228.length) = True := eq_true (by omega)
   obtain ⟨go21, co21, eo21, gb21, gl21, cl21, HG21⟩ := Kd.N_form HO230.out (by omega)
   (first | cases eo21 | (injection eo21 with ea_ en_ ec_; (first | subst ea_ | (injection ea_ with ea_; subst ea_)); subst ec_; clear en_))
   have GB21 := a_ gb21
   have GG21 := a_ HG21
   clear gb21 gl21 HG21
   obtain ⟨ce21, hcl21, hM21, hcc21, hfr21⟩ := Kd.N_elem HO230.out z33 (1 : Int) p21 q21
   obtain ⟨ua21_2, uc21_2, rfl, ul21_2, ge21_2⟩ := k33_openF hM21
   have hx21_0 : w15.cell? ⟨go21, (1 : Int).toNat * 4, none⟩ = some (.int .i64 ((rd_T33 t228 1).f0)) := hcc21 0 _ rfl
   have hx21_1 : w15.cell? ⟨go21, (1 : Int).toNat * 4 + 1, none⟩ = some (.int .i64 ((rd_T33 t228 1).f1)) := hcc21 1 _ rfl
   have hx21_2 : w15.cell? ⟨go21, (1 : Int).toNat * 4 + 2, none⟩ = some (.slice ua21_2 ((rd_T33 t228 1).f2).length uc21_2) := hcc21 2 _ rfl
   have hx21_3 : w15.cell? ⟨go21, (1 : Int).toNat * 4 + 3, none⟩ = some (.string ((rd_T33 t228 1).f3)) := hcc21 3 _ rfl
   have hf21_0 : w15.frozen? ⟨go21, (1 : Int).toNat * 4, none⟩ = false := hfr21 0
   have hf21_1 : w15.frozen? ⟨go21, (1 : Int).toNat * 4 + 1, none⟩ = false := hfr21 1
   have hf21_2 : w15.frozen? ⟨go21, (1 : Int).toNat * 4 + 2, none⟩ = false := hfr21 2
   have hf21_3 : w15.frozen? ⟨go21, (1 : Int).toNat * 4 + 3, none⟩ = false := hfr21 3
   clear hcl21 hcc21 hfr21 hM21
   (try rw [show ((1 : Int)).toNat = 1 from rfl] at hx21_0)
   (try simp only [Nat.reduceMul, Nat.zero_mul, Nat.zero_add, Nat.reduceAdd] at hx21_0)
   (try rw [show ((1 : Int)).toNat = 1 from rfl] at hf21_0)
   (try simp only [Nat.reduceMul, Nat.zero_mul, Nat.zero_add, Nat.reduceAdd] at hf21_0)
   (try rw [show ((1 : Int)).toNat = 1 from rfl] at hx21_1)
   (try simp only [Nat.reduceMul, Nat.zero_mul, Nat.zero_add, Nat.reduceAdd] at hx21_1)
   (try rw [show ((1 : Int)).toNat = 1 from rfl] at hf21_1)
   (try simp only [Nat.reduceMul, Nat.zero_mul, Nat.zero_add, Nat.reduceAdd] at hf21_1)
   (try rw [show ((1 : Int)).toNat = 1 from rfl] at hx21_2)
   (try simp only [Nat.reduceMul, Nat.zero_mul, Nat.zero_add, Nat.reduceAdd] at hx21_2)
   (try rw [show ((1 : Int)).toNat = 1 from rfl] at hf21_2)
   (try simp only [Nat.reduceMul, Nat.zero_mul, Nat.zero_add, Nat.reduceAdd] at hf21_2)
   (try rw [show ((1 : Int)).toNat = 1 from rfl] at hx21_3)
   (try simp only [Nat.reduceMul, Nat.zero_mul, Nat.zero_add, Nat.reduceAdd] at hx21_3)
   (try rw [show ((1 : Int)).toNat = 1 from rfl] at hf21_3)
   (try simp only [Nat.reduceMul, Nat.zero_mul, Nat.zero_add, Nat.reduceAdd] at hf21_3)
   replace p21 := eq_true p21
   replace q21 := eq_true q21
   have HX23 := a_ (show Kd.N k33 33 w15 w.heap.size (fun k_ => some k_ ≠ (.slice Ao11 y231.length co11 : Value).ownBlock ∧ k_ ≠ gb234) (.slice (some ⟨go21, 0, none⟩) t228.length co12) t228 from (hN_ HO230.out))
   obtain ⟨ce23, hcl23, hM23, hcc23, hfr23⟩ := Kd.N_elem HX23.out z33 (1 : Int) (by omega) (by have h_ : (1 : Int) < ((t228.length : Int) : Int) := of_decide_eq_true hA_; first | exact h_ | (have e_ := (Kd.N_reads' HO230.out).1; omega) | simpa using h_)
   obtain ⟨ua23_2, uc23_2, rfl, ul23_2, ge23_2⟩ := k33_openF hM23
   have HP23 := Kd.N_seg HX23.out (1 : Int) (by omega) (by have h_ : (1 : Int) < ((t228.length : Int) : Int) := of_decide_eq_true hA_; first | exact h_ | (have e_ := (Kd.N_reads' HO230.out).1; omega) | simpa using h_) (seg := [.int .i64 1]) (j := 1) hcl23 hcc23 (show 2 ≤ 4 from by decide) (x' := (⟨(rd_T33 t228 1).f0, 1, (rd_T33 t228 1).f2, (rd_T33 t228 1).f3⟩ : S33)) (k33_mkF _ _ (⟨(rd_T33 t228 1).f0, 1, (rd_T33 t228 1).f2, (rd_T33 t228 1).f3⟩ : S33) ul23_2 ge23_2) (fun _ hk => hk)
   have hx23_1 := hcc23 1 _ rfl
   (try simp only [show (k33).sz = 4 from rfl, Nat.mul_one, Nat.add_zero] at hx23_1)
   (try rw [show ((1 : Int)).toNat = 1 from rfl] at hx23_1)
   (try simp only [Nat.reduceMul, Nat.zero_mul, Nat.zero_add, Nat.reduceAdd] at hx23_1)
   have hf23_1 := hfr23 1
   (try simp only [show (k33).sz = 4 from rfl, Nat.mul_one, Nat.add_zero] at hf23_1)
   (try rw [show ((1 : Int)).toNat = 1 from rfl] at hf23_1)
   (try simp only [Nat.reduceMul, Nat.zero_mul, Nat.zero_add, Nat.reduceAdd] at hf23_1)
   clear hcl23 hcc23 hfr23 hM23
   go_wp2_with (first | ((with_reducible refine gate_store (t := 3) (p := 44) rfl ?_); refine store_event (t := 3) (p := 44) (v := ?vo_w24) (w1 := (w15.setCell ⟨go21, 5, none⟩ (.int .i64 1))) ?hg ?ho ?hn ?hr ?_; (case ho => rfl); (case hg => rfl); (case hn => rfl); (case hr => first | (go_simp; done) | (go_simp; rfl)); intro w24 hw; have hg : w15.grownBy w24 (some go21) := (by rw [hw]; exact HP23.2); have hp_ : Kd.N k33 33 w24 w.heap.size (fun k_ => some k_ ≠ (.slice Ao11 y231.length co11 : Value).ownBlock ∧ k_ ≠ gb234) (.slice (some ⟨go21, 0, none⟩) t228.length co12) y235 := (by rw [hw, Ny235.out]; exact HP23.1); clear HP23; replace HO233 := a_ (Kd.R_over' (v := (.slice (some ⟨go21, 0, none⟩) t228.length co12)) (hR_ HO233.out) (Kd.N_typed HO230.out) (by decide) hg); replace BK234 := a_ (blk_grown (hK_ BK234.out) hg (Kd.N_ne HO230.out BK234.out (by decide))); replace HO230 := a_ (hp_); replace HB := a_ ((by rw [hw]; exact below_set (HB.out) GB21.out : Below w.heap.size w w24)); clear hg hw hp_))
   go_meet
   case rel => exact ⟨_, (false), (y235), (0), (y231), (.slice (some ⟨go21, 0, none⟩) t228.length co12), (.slice Ao11 y231.length co11), hW_, H', ⟨by first | omega | exact Nat.le_refl _⟩, ⟨hN_ HO230.out⟩, ⟨hR_ HO233.out⟩, ⟨(hK_ BK234.out)⟩, ⟨hC_⟩⟩
  rw [if_neg c19] at H
  have c19b0 : ((Int.tmod (IntKind.u64.wrap (a0)) 9) == 1) = false := beq_eq_false_iff_ne.mpr c19
  have c19b1 : ((Int.tmod (IntKind.u64.wrap (a0)) 9) != 1) = true := bne_iff_ne.mpr c19
  by_cases c25 : (Int.tmod (IntKind.u64.wrap (a0)) 9) = 2
  case pos =>
   rw [if_pos c25] at H
   have c25b0 : ((Int.tmod (IntKind.u64.wrap (a0)) 9) == 2) = true := beq_iff_eq.mpr c25
   have c25b1 : ((Int.tmod (IntKind.u64.wrap (a0)) 9) != 2) = false := bne_eq_false_iff_eq.mpr c25
   clear c25
   obtain ⟨ji26, hji26⟩ : ∃ j_ : Int, (wrap64 (512 + (wrap64 (1 + (Go.bits .and .i64 a1 1023))))) = j_ := ⟨_, rfl⟩
   replace H : (if 0 ≤ (ji26) then (if (ji26 : Int).toNat ≤ 17592186044416 then (sleuthlaw20_NextForms.l0 k false 0 t228 0 (List.replicate (ji26 : Int).toNat z26)) else (none)) else (none)) = some r := by first | (rw [hji26] at H; exact H) | (simp only [hji26] at H ⊢; exact H)
   have hji26w : (IntKind.i64.wrap (512 + (wrap64 (1 + (Go.bits .and .i64 a1 1023))))) = ji26 := (i64_w _).trans hji26
   replace H := ifI_ H; obtain ⟨c27, H⟩ := H
   have c27b0 := eq_true c27
   have c27b1 : decide (0 ≤ (ji26)) = true := decide_eq_true c27
   clear c27
   replace H := ifI_ H; obtain ⟨c28, H⟩ := H
   have c28b0 := eq_true c28
   have c28b1 : decide ((ji26 : Int).toNat ≤ 17592186044416) = true := decide_eq_true c28
   clear c28
   obtain ⟨y236, hy236⟩ : ∃ y_ : List (S26), y_ = (List.replicate (ji26 : Int).toNat z26) := ⟨_, rfl⟩
   replace H : (sleuthlaw20_NextForms.l0 k false 0 t228 0 y236) = some r := by first | (rw [hy236]; with_reducible exact H) | (have H2_ := (Option.bind_some _ _).symm.trans H; rw [hy236]; with_reducible exact H2_) | (have H2_ := (Option.bind_some _ _).symm.trans H; with_reducible exact H2_) | with_reducible exact H | (rw [hy236]; exact H) | exact H
   have Ny236 := a_ hy236
   clear hy236
   have H' := a_ H
   clear H
   go_wp2_with (first | ((with_reducible refine gate_dst (N := 49) rfl ?_); (try (refine gate_guard (by rfl) ?_; dsimp only)); refine Kd.R_make k26 _ 26 rfl (N := 49) rfl 27 _ _ rfl ji26 rfl rfl Tryd.underlying27 (.agg #[(.int .i64 0), (.int .i64 0)]) 16 info26 rfl (by decide) (by omega) z26 (ok := fun _ => True) (okp := fun _ => True) (k26_mkM _ _ _ z26 ) (fun _ hk => hk) trivial (of_decide_eq_true hA_) (Nat.le_trans (Nat.mul_le_mul_right _ (of_decide_eq_true hA_ : ji26.toNat ≤ 17592186044416)) (by omega)) (Below.refl _ _) (Nat.le_refl _) ?_; intro v237 w29 ho30 hb hg_ hnew_; clear hg_ hnew_; (first | rw [← Ny236.out] at ho30 | (simp only [Int.reduceToNat] at ho30; rw [← Ny236.out] at ho30)); replace HO230 := a_ (Kd.N_elder' (hN_ HO230.out) (Kd.R_base ho30) hb); have HO238 := a_ (Kd.R_lower (Kd.R_new' ho30 (Kd.R_lt (hR_ HO233.out))) (below_size hC_)); replace HO233 := a_ (Kd.R_elder' (hR_ HO233.out) (Kd.R_base ho30) hb); replace BK234 := a_ (bB_ BK234.out hb); replace HB := a_ (below_step hC_ hb); clear hb ho30; obtain ⟨Ao31, co31, eo31⟩ := Kd.R_slice HO238.out; subst eo31; obtain ⟨hcz32_0, hcz32_1, hcz32_2, hfz32_0, hfz32_1, hfz32_2⟩ := bx3_ BK234.out) | ((with_reducible refine gate_store (t := 27) (p := 50) rfl ?_); refine store_event (t := 27) (p := 50) (v := ?vo_w33) (w1 := (w29.setCell ⟨gb234, 2, none⟩ (.slice Ao31 y236.length co31))) ?hg ?ho ?hn ?hr ?_; (case ho => rfl); (case hg => rfl); (case hn => rfl); (case hr => first | (go_simp; done) | (go_simp; rfl)); intro w33 hw; replace HO230 : Aside0 (Kd.N k33 33 w33 w.heap.size (fun k_ => some k_ ≠ (.slice Ao11 y231.length co11 : Value).ownBlock ∧ some k_ ≠ (.slice Ao31 y236.length co31 : Value).ownBlock ∧ k_ ≠ gb234) (.slice Ao12 t228.length co12) t228) := ⟨(by rw [hw]; exact (by (with_reducible repeat (first | apply Kd.N_alloc | apply Kd.N_drewN | apply Kd.N_drew)); exact Kd.N_mono (nF_ (Kd.N_mono HO230.out (fun k_ hk => (⟨hk, hk.1.2⟩ : _ ∧ k_ ≠ gb234)))) (fun _ hk => ⟨hk.1.1.1, ⟨hk.1.2, hk.1.1.2⟩⟩)))⟩; replace HO233 : Aside0 (Kd.R k26 26 w33 w.heap.size (fun k_ => some k_ ≠ (.slice Ao31 y236.length co31 : Value).ownBlock) (.slice Ao11 y231.length co11) y231) := ⟨(by rw [hw]; exact (by (with_reducible repeat (first | apply Kd.R_alloc | apply Kd.R_drewN | apply Kd.R_drew)); exact Kd.R_mono (rF_ (Kd.R_types HO233.out BK234.out (by decide))) (fun _ hk => hk.1.2)))⟩; replace HO238 : Aside0 (Kd.R k26 26 w33 w.heap.size (fun k_ => some k_ ≠ (.slice Ao11 y231.length co11 : Value).ownBlock) (.slice Ao31 y236.length co31) y236) := ⟨(by rw [hw]; exact (by (with_reducible repeat (first | apply Kd.R_alloc | apply Kd.R_drewN | apply Kd.R_drew)); exact Kd.R_mono (rF_ (Kd.R_types HO238.out BK234.out (by decide))) (fun _ hk => hk.1.2)))⟩; replace BK234 : Aside0 (w33.heap[gb234]? = some (.cells #[.slice Ao12 t228.length co12, .int .i64 0, .slice Ao31 y236.length co31] 29 (0, 0))) := ⟨(by rw [hw]; exact (bP_ (hK_ BK234.out)))⟩; replace HB : Aside0 (Below w.heap.size w w33) := ⟨(by rw [hw]; exact hC_)⟩; clear hw))
   go_loopg [8] k (fun kq v8 w' => ∃ (x8_1 : Int) (x235002_1 : List (S26)) (u235002 : Value), v8 = .int .i64 x8_1 ∧ Aside0 (sleuthlaw20_NextForms.l0 kq false x8_1 t228 0 x235002_1 = some r) ∧ Aside0 (kq ≤ k) ∧ Aside0 (Kd.N k33 33 w' w.heap.size (fun k_ => some k_ ≠ (u235002 : Value).ownBlock ∧ k_ ≠ gb234) (.slice Ao12 t228.length co12) t228) ∧ Aside0 (Kd.R k26 26 w' w.heap.size (fun _ => True) u235002 x235002_1) ∧ Aside0 (w'.heap[gb234]? = some (.cells #[(.slice Ao12 t228.length co12), .int .i64 0, u235002] 29 (0, 0))) ∧ Aside0 (Below w.heap.size w w'))
   case atStart => exact ⟨(0), (y236), (.slice Ao31 y236.length co31), hW_, H', ⟨Nat.le_refl _⟩, ⟨by (with_reducible repeat (first | apply Kd.N_alloc | apply Kd.N_drewN | apply Kd.N_drew)); exact Kd.N_mono HO230.out (fun _ hk => ⟨hk.2.1, hk.2.2⟩)⟩, ⟨hR_ (Kd.R_mono HO238.out (fun _ hk => trivial))⟩, ⟨(hK_ BK234.out)⟩, ⟨hC_⟩⟩
   case round =>
    clear H'
    try clear c1
    try clear c2
    try clear p2
    try clear q2
    try clear hx2
    try clear qi2
    try clear hf2
    try clear c3
    try clear c4
    try clear p6
    try clear c7
    try clear c8
    try clear c16
    try clear c16b0
    try clear c16b1
    try clear c19
    try clear c19b0
    try clear c19b1
    try clear c20
    try clear c20b0
    try clear c20b1
    try clear c21
    try clear p21
    try clear q21
    try clear hx21
    try clear qi21
    try clear hf21
    try clear c23
    try clear hx23
    try clear hf23
    try clear c25
    try clear c25b0
    try clear c25b1
    try clear c27
    try clear c27b0
    try clear c27b1
    try clear c28
    try clear c28b0
    try clear c28b1
    try clear hji26
    try clear hji26w
    try clear hcz14_0
    try clear hcz14_1
    try clear hcz14_2
    try clear hcz17_0
    try clear hcz17_1
    try clear hcz17_2
    try clear hcz22_0
    try clear hcz22_1
    try clear hcz22_2
    try clear hcz32_0
    try clear hcz32_1
    try clear hcz32_2
    try clear hfz14_0
    try clear hfz14_1
    try clear hfz14_2
    try clear hfz17_0
    try clear hfz17_1
    try clear hfz17_2
    try clear hfz22_0
    try clear hfz22_1
    try clear hfz22_2
    try clear hfz32_0
    try clear hfz32_1
    try clear hfz32_2
    try clear hx21_0
    try clear hx21_1
    try clear hx21_2
    try clear hx21_3
    try clear hx23_1
    try clear p21
    try clear q21
    obtain ⟨x8_1, x235002_1, u235002, rfl, HA, HK1, HO_235000, HO_235002, BK234, HB⟩ := hrel
    cases gk with
    | zero => exact absurd HA.out (by simp [sleuthlaw20_NextForms.l0])
    | succ k1 =>
     have H := HA.out
     clear HA
     simp only [sleuthlaw20_NextForms.l0] at H
     by_cases c34 : x8_1 < (x235002_1.length : Int)
     case neg =>
      rw [if_neg c34] at H
      have c34b0 : decide (x8_1 < (x235002_1.length : Int)) = false := decide_eq_false c34
      clear c34
      have H' := a_ H
      clear H
      obtain ⟨hcz41_0, hcz41_1, hcz41_2, hfz41_0, hfz41_1, hfz41_2⟩ := bx3_ BK234.out
      obtain ⟨Ao42, co42, eo42⟩ := Kd.R_slice HO_235002.out
      subst eo42
      go_wp2
      go_meet
      case rel => exact ⟨_, (false), (t228), (0), (x235002_1), (.slice Ao12 t228.length co12), (.slice Ao42 x235002_1.length co42), hW_, H', ⟨by have := HK1.out; first | omega | exact Nat.le_refl _⟩, ⟨hN_ HO_235000.out⟩, ⟨hR_ HO_235002.out⟩, ⟨(hK_ BK234.out)⟩, ⟨hC_⟩⟩
     rw [if_pos c34] at H
     have c34b0 : decide (x8_1 < (x235002_1.length : Int)) = true := decide_eq_true c34
     clear c34
     replace H := ifI_ H; obtain ⟨c35, H⟩ := H
     have c35b0 : decide (0 ≤ x8_1) = true := decide_eq_true c35
     clear c35
     obtain ⟨y239, hy239⟩ : ∃ y_ : List (S26), y_ = (x235002_1.set (x8_1 : Int).toNat (⟨(rd_T26 x235002_1 x8_1).f0, 1⟩ : S26)) := ⟨_, rfl⟩
     replace H : (sleuthlaw20_NextForms.l0 k1 false (wrap64 (x8_1 + 1)) t228 0 y239) = some r := by first | (rw [hy239]; with_reducible exact H) | (have H2_ := (Option.bind_some _ _).symm.trans H; rw [hy239]; with_reducible exact H2_) | (have H2_ := (Option.bind_some _ _).symm.trans H; with_reducible exact H2_) | with_reducible exact H | (rw [hy239]; exact H) | exact H
     have Ny239 := a_ hy239
     clear hy239
     have H' := a_ H
     clear H
     obtain ⟨hcz37_0, hcz37_1, hcz37_2, hfz37_0, hfz37_1, hfz37_2⟩ := bx3_ BK234.out
     obtain ⟨Ao38, co38, eo38⟩ := Kd.R_slice HO_235002.out
     subst eo38
     have p36 : 0 ≤ (x8_1 : Int) := of_decide_eq_true hA_
     have q36 : (x8_1 : Int) < ((x235002_1.length : Int) : Int) := of_decide_eq_true hA_
     obtain ⟨go36, co36, eo36, gb36, gl36, cl36, HG36⟩ := Kd.R_form HO_235002.out (by omega)
     (first | cases eo36 | (injection eo36 with ea_ en_ ec_; (first | subst ea_ | (injection ea_ with ea_; subst ea_)); subst ec_; clear en_))
     have GB36 := a_ gb36
     have GG36 := a_ HG36
     clear gb36 gl36 HG36
     obtain ⟨ce36, hcl36, hM36, hcc36, hfr36⟩ := Kd.R_elem HO_235002.out z26 (x8_1 : Int) p36 q36
     obtain rfl := k26_openM hM36
     have hx36_0 : wr.cell? ⟨go36, (x8_1 : Int).toNat * 2, none⟩ = some (.int .i64 ((rd_T26 x235002_1 x8_1).f0)) := hcc36 0 _ rfl
     have hx36_1 : wr.cell? ⟨go36, (x8_1 : Int).toNat * 2 + 1, none⟩ = some (.int .i64 ((rd_T26 x235002_1 x8_1).f1)) := hcc36 1 _ rfl
     have hf36_0 : wr.frozen? ⟨go36, (x8_1 : Int).toNat * 2, none⟩ = false := hfr36 0
     have hf36_1 : wr.frozen? ⟨go36, (x8_1 : Int).toNat * 2 + 1, none⟩ = false := hfr36 1
     clear hcl36 hcc36 hfr36 hM36
     replace p36 := eq_true p36
     replace q36 := eq_true q36
     have HX39 := a_ (show Kd.R k26 26 wr w.heap.size (fun _ => True) (.slice (some ⟨go36, 0, none⟩) x235002_1.length co38) x235002_1 from (hR_ HO_235002.out))
     obtain ⟨ce39, hcl39, hM39, hcc39, hfr39⟩ := Kd.R_elem HX39.out z26 (x8_1 : Int) (of_decide_eq_true hA_) (by have h_ : (x8_1 : Int) < ((x235002_1.length : Int) : Int) := of_decide_eq_true hA_; first | exact h_ | (have e_ := (Kd.R_reads' HO_235002.out).1; omega) | simpa using h_)
     obtain rfl := k26_openM hM39
     have HP39 := Kd.R_seg HX39.out (x8_1 : Int) (of_decide_eq_true hA_) (by have h_ : (x8_1 : Int) < ((x235002_1.length : Int) : Int) := of_decide_eq_true hA_; first | exact h_ | (have e_ := (Kd.R_reads' HO_235002.out).1; omega) | simpa using h_) (seg := [.int .i64 1]) (j := 1) hcl39 hcc39 (show 2 ≤ 2 from by decide) (x' := (⟨(rd_T26 x235002_1 x8_1).f0, 1⟩ : S26)) (k26_mkM _ _ _ (⟨(rd_T26 x235002_1 x8_1).f0, 1⟩ : S26) ) (fun _ hk => hk)
     have hx39_1 := hcc39 1 _ rfl
     (try simp only [show (k26).sz = 2 from rfl, Nat.mul_one, Nat.add_zero] at hx39_1)
     have hf39_1 := hfr39 1
     (try simp only [show (k26).sz = 2 from rfl, Nat.mul_one, Nat.add_zero] at hf39_1)
     clear hcl39 hcc39 hfr39 hM39
     go_wp2_with (first | ((with_reducible refine gate_store (t := 3) (p := 62) rfl ?_); refine store_event (t := 3) (p := 62) (v := ?vo_w40) (w1 := (wr.setCell ⟨go36, (x8_1 : Int).toNat * 2 + 1, none⟩ (.int .i64 1))) ?hg ?ho ?hn ?hr ?_; (case ho => rfl); (case hg => rfl); (case hn => rfl); (case hr => first | (go_simp; done) | (go_simp; rfl)); intro w40 hw; have hg : wr.grownBy w40 (some go36) := (by rw [hw]; exact HP39.2); have hp_ : Kd.R k26 26 w40 w.heap.size (fun _ => True) (.slice (some ⟨go36, 0, none⟩) x235002_1.length co38) y239 := (by rw [hw, Ny239.out]; exact HP39.1); clear HP39; replace HO_235000 := a_ (Kd.N_afterv (v := (.slice (some ⟨go36, 0, none⟩) x235002_1.length co38)) (v1 := (.slice (some ⟨go36, 0, none⟩) x235002_1.length co38)) (ok := (fun k_ => k_ ≠ gb234)) (by (with_reducible repeat (first | apply Kd.N_alloc | apply Kd.N_drewN | apply Kd.N_drew)); exact Kd.N_mono HO_235000.out (fun _ hk => ⟨hk.2, hk.1⟩)) hg (.inl rfl)); replace BK234 := a_ (blk_grown (hK_ BK234.out) hg (Kd.R_ne HO_235002.out BK234.out (by decide))); replace HO_235002 := a_ (hp_); replace HB := a_ ((by rw [hw]; exact below_set (HB.out) GB36.out : Below w.heap.size w w40)); clear hg hw hp_))
     go_roundg k1
     case measure => have := HK1.out; omega
     case rel => exact ⟨(wrap64 (x8_1 + 1)), (y239), (.slice (some ⟨go36, 0, none⟩) x235002_1.length co38), hW_, H', ⟨by have := HK1.out; omega⟩, ⟨by (with_reducible repeat (first | apply Kd.N_alloc | apply Kd.N_drewN | apply Kd.N_drew)); exact Kd.N_mono HO_235000.out (fun _ hk => ⟨hk.2, hk.1⟩)⟩, ⟨hR_ HO_235002.out⟩, ⟨(hK_ BK234.out)⟩, ⟨hC_⟩⟩
  rw [if_neg c25] at H
  have c25b0 : ((Int.tmod (IntKind.u64.wrap (a0)) 9) == 2) = false := beq_eq_false_iff_ne.mpr c25
  have c25b1 : ((Int.tmod (IntKind.u64.wrap (a0)) 9) != 2) = true := bne_iff_ne.mpr c25
  by_cases c43 : (Int.tmod (IntKind.u64.wrap (a0)) 9) = 3
  case pos =>
   rw [if_pos c43] at H
   have c43b0 : ((Int.tmod (IntKind.u64.wrap (a0)) 9) == 3) = true := beq_iff_eq.mpr c43
   have c43b1 : ((Int.tmod (IntKind.u64.wrap (a0)) 9) != 3) = false := bne_eq_false_iff_eq.mpr c43
   clear c43
   replace H := ifI_ H; obtain ⟨c44, H⟩ := H
   have c44b0 : decide (1 < (y231.length : Int)) = true := decide_eq_true c44
   have c44b1 : decide (1 < y231.length) = true := decide_eq_true (by omega)
   clear c44
   obtain ⟨y240, hy240⟩ : ∃ y_ : List (S26), y_ = (y231.set (1 : Int).toNat (⟨wrap64 (-(wrap64 (1 + (Go.bits .and .i64 a1 1023)))), (rd_T26 y231 1).f1⟩ : S26)) := ⟨_, rfl⟩
   replace H : (sleuthlaw20_NextForms.j1 k false t228 0 y240) = some r := by first | (rw [hy240]; with_reducible exact H) | (have H2_ := (Option.bind_some _ _).symm.trans H; rw [hy240]; with_reducible exact H2_) | (have H2_ := (Option.bind_some _ _).symm.trans H; with_reducible exact H2_) | with_reducible exact H | (rw [hy240]; exact H) | exact H
   have Ny240 := a_ hy240
   clear hy240
   have H' := a_ H
   clear H
   obtain ⟨hcz46_0, hcz46_1, hcz46_2, hfz46_0, hfz46_1, hfz46_2⟩ := bx3_ BK234.out
   have p45 : 0 ≤ (1 : Int) := (by omega)
   have q45 : (1 : Int) < ((y231.length : Int) : Int) := of_decide_eq_true hA_
   have qi45 : (1 < y231.length) = True := eq_true (by omega)
   obtain ⟨go45, co45, eo45, gb45, gl45, cl45, HG45⟩ := Kd.R_form HO233.out (by omega)
   (first | cases eo45 | (injection eo45 with ea_ en_ ec_; (first | subst ea_ | (injection ea_ with ea_; subst ea_)); subst ec_; clear en_))
   have GB45 := a_ gb45
   have GG45 := a_ HG45
   clear gb45 gl45 HG45
   obtain ⟨ce45, hcl45, hM45, hcc45, hfr45⟩ := Kd.R_elem HO233.out z26 (1 : Int) p45 q45
   obtain rfl := k26_openM hM45
   have hx45_0 : w15.cell? ⟨go45, (1 : Int).toNat * 2, none⟩ = some (.int .i64 ((rd_T26 y231 1).f0)) := hcc45 0 _ rfl
   have hx45_1 : w15.cell? ⟨go45, (1 : Int).toNat * 2 + 1, none⟩ = some (.int .i64 ((rd_T26 y231 1).f1)) := hcc45 1 _ rfl
   have hf45_0 : w15.frozen? ⟨go45, (1 : Int).toNat * 2, none⟩ = false := hfr45 0
   have hf45_1 : w15.frozen? ⟨go45, (1 : Int).toNat * 2 + 1, none⟩ = false := hfr45 1
   clear hcl45 hcc45 hfr45 hM45
   (try rw [show ((1 : Int)).toNat = 1 from rfl] at hx45_0)
   (try simp only [Nat.reduceMul, Nat.zero_mul, Nat.zero_add, Nat.reduceAdd] at hx45_0)
   (try rw [show ((1 : Int)).toNat = 1 from rfl] at hf45_0)
   (try simp only [Nat.reduceMul, Nat.zero_mul, Nat.zero_add, Nat.reduceAdd] at hf45_0)
   (try rw [show ((1 : Int)).toNat = 1 from rfl] at hx45_1)
   (try simp only [Nat.reduceMul, Nat.zero_mul, Nat.zero_add, Nat.reduceAdd] at hx45_1)
   (try rw [show ((1 : Int)).toNat = 1 from rfl] at hf45_1)
   (try simp only [Nat.reduceMul, Nat.zero_mul, Nat.zero_add, Nat.reduceAdd] at hf45_1)
   replace p45 := eq_true p45
   replace q45 := eq_true q45
   have HX47 := a_ (show Kd.R k26 26 w15 w.heap.size (fun _ => True) (.slice (some ⟨go45, 0, none⟩) y231.length co11) y231 from (hR_ HO233.out))
   obtain ⟨ce47, hcl47, hM47, hcc47, hfr47⟩ := Kd.R_elem HX47.out z26 (1 : Int) (by omega) (by have h_ : (1 : Int) < ((y231.length : Int) : Int) := of_decide_eq_true hA_; first | exact h_ | (have e_ := (Kd.R_reads' HO233.out).1; omega) | simpa using h_)
   obtain rfl := k26_openM hM47
   have HP47 := Kd.R_seg HX47.out (1 : Int) (by omega) (by have h_ : (1 : Int) < ((y231.length : Int) : Int) := of_decide_eq_true hA_; first | exact h_ | (have e_ := (Kd.R_reads' HO233.out).1; omega) | simpa using h_) (seg := [.int .i64 (wrap64 (-(wrap64 (1 + (Go.bits .and .i64 a1 1023)))))]) (j := 0) hcl47 hcc47 (show 1 ≤ 2 from by decide) (x' := (⟨wrap64 (-(wrap64 (1 + (Go.bits .and .i64 a1 1023)))), (rd_T26 y231 1).f1⟩ : S26)) (k26_mkM _ _ _ (⟨wrap64 (-(wrap64 (1 + (Go.bits .and .i64 a1 1023)))), (rd_T26 y231 1).f1⟩ : S26) ) (fun _ hk => hk)
   have hx47_0 := hcc47 0 _ rfl
   (try simp only [show (k26).sz = 2 from rfl, Nat.mul_one, Nat.add_zero] at hx47_0)
   (try rw [show ((1 : Int)).toNat = 1 from rfl] at hx47_0)
   (try simp only [Nat.reduceMul, Nat.zero_mul, Nat.zero_add, Nat.reduceAdd] at hx47_0)
   have hf47_0 := hfr47 0
   (try simp only [show (k26).sz = 2 from rfl, Nat.mul_one, Nat.add_zero] at hf47_0)
   (try rw [show ((1 : Int)).toNat = 1 from rfl] at hf47_0)
   (try simp only [Nat.reduceMul, Nat.zero_mul, Nat.zero_add, Nat.reduceAdd] at hf47_0)
   clear hcl47 hcc47 hfr47 hM47
   go_wp2_with (first | ((with_reducible refine gate_store (t := 3) (p := 70) rfl ?_); refine store_event (t := 3) (p := 70) (v := ?vo_w48) (w1 := (w15.setCell ⟨go45, 2, none⟩ (.int .i64 (wrap64 (-(wrap64 (1 + (Go.bits .and .i64 a1 1023)))))))) ?hg ?ho ?hn ?hr ?_; (case ho => rfl); (case hg => rfl); (case hn => rfl); (case hr => first | (go_simp; done) | (go_simp; rfl)); intro w48 hw; have hg : w15.grownBy w48 (some go45) := (by rw [hw]; exact HP47.2); have hp_ : Kd.R k26 26 w48 w.heap.size (fun _ => True) (.slice (some ⟨go45, 0, none⟩) y231.length co11) y240 := (by rw [hw, Ny240.out]; exact HP47.1); clear HP47; replace HO230 := a_ (Kd.N_afterv (v := (.slice (some ⟨go45, 0, none⟩) y231.length co11)) (v1 := (.slice (some ⟨go45, 0, none⟩) y231.length co11)) (ok := (fun k_ => k_ ≠ gb234)) (by (with_reducible repeat (first | apply Kd.N_alloc | apply Kd.N_drewN | apply Kd.N_drew)); exact Kd.N_mono HO230.out (fun _ hk => ⟨hk.2, hk.1⟩)) hg (.inl rfl)); replace BK234 := a_ (blk_grown (hK_ BK234.out) hg (Kd.R_ne HO233.out BK234.out (by decide))); replace HO233 := a_ (hp_); replace HB := a_ ((by rw [hw]; exact below_set (HB.out) GB45.out : Below w.heap.size w w48)); clear hg hw hp_))
   go_meet
   case rel => exact ⟨_, (false), (t228), (0), (y240), (.slice Ao12 t228.length co12), (.slice (some ⟨go45, 0, none⟩) y231.length co11), hW_, H', ⟨by first | omega | exact Nat.le_refl _⟩, ⟨by (with_reducible repeat (first | apply Kd.N_alloc | apply Kd.N_drewN | apply Kd.N_drew)); exact Kd.N_mono HO230.out (fun _ hk => ⟨hk.2, hk.1⟩)⟩, ⟨hR_ HO233.out⟩, ⟨(hK_ BK234.out)⟩, ⟨hC_⟩⟩
  rw [if_neg c43] at H
  have c43b0 : ((Int.tmod (IntKind.u64.wrap (a0)) 9) == 3) = false := beq_eq_false_iff_ne.mpr c43
  have c43b1 : ((Int.tmod (IntKind.u64.wrap (a0)) 9) != 3) = true := bne_iff_ne.mpr c43
  by_cases c49 : (Int.tmod (IntKind.u64.wrap (a0)) 9) = 4
  case pos =>
   rw [if_pos c49] at H
   have c49b0 : ((Int.tmod (IntKind.u64.wrap (a0)) 9) == 4) = true := beq_iff_eq.mpr c49
   have c49b1 : ((Int.tmod (IntKind.u64.wrap (a0)) 9) != 4) = false := bne_eq_false_iff_eq.mpr c49
   clear c49
   replace H := ifI_ H; obtain ⟨c50, H⟩ := H
   have c50b0 : decide (1 < (y231.length : Int)) = true := decide_eq_true c50
   have c50b1 : decide (1 < y231.length) = true := decide_eq_true (by omega)
   clear c50
   obtain ⟨y241, hy241⟩ : ∃ y_ : List (S26), y_ = (y231.set (1 : Int).toNat (⟨wrap64 (4 + (wrap64 (1 + (Go.bits .and .i64 a1 1023)))), (rd_T26 y231 1).f1⟩ : S26)) := ⟨_, rfl⟩
   replace H : (sleuthlaw20_NextForms.j1 k false t228 0 y241) = some r := by first | (rw [hy241]; with_reducible exact H) | (have H2_ := (Option.bind_some _ _).symm.trans H; rw [hy241]; with_reducible exact H2_) | (have H2_ := (Option.bind_some _ _).symm.trans H; with_reducible exact H2_) | with_reducible exact H | (rw [hy241]; exact H) | exact H
   have Ny241 := a_ hy241
   clear hy241
   have H' := a_ H
   clear H
   obtain ⟨hcz52_0, hcz52_1, hcz52_2, hfz52_0, hfz52_1, hfz52_2⟩ := bx3_ BK234.out
   have p51 : 0 ≤ (1 : Int) := (by omega)
   have q51 : (1 : Int) < ((y231.length : Int) : Int) := of_decide_eq_true hA_
   have qi51 : (1 < y231.length) = True := eq_true (by omega)
   obtain ⟨go51, co51, eo51, gb51, gl51, cl51, HG51⟩ := Kd.R_form HO233.out (by omega)
   (first | cases eo51 | (injection eo51 with ea_ en_ ec_; (first | subst ea_ | (injection ea_ with ea_; subst ea_)); subst ec_; clear en_))
   have GB51 := a_ gb51
   have GG51 := a_ HG51
   clear gb51 gl51 HG51
   obtain ⟨ce51, hcl51, hM51, hcc51, hfr51⟩ := Kd.R_elem HO233.out z26 (1 : Int) p51 q51
   obtain rfl := k26_openM hM51
   have hx51_0 : w15.cell? ⟨go51, (1 : Int).toNat * 2, none⟩ = some (.int .i64 ((rd_T26 y231 1).f0)) := hcc51 0 _ rfl
   have hx51_1 : w15.cell? ⟨go51, (1 : Int).toNat * 2 + 1, none⟩ = some (.int .i64 ((rd_T26 y231 1).f1)) := hcc51 1 _ rfl
   have hf51_0 : w15.frozen? ⟨go51, (1 : Int).toNat * 2, none⟩ = false := hfr51 0
   have hf51_1 : w15.frozen? ⟨go51, (1 : Int).toNat * 2 + 1, none⟩ = false := hfr51 1
   clear hcl51 hcc51 hfr51 hM51
   (try rw [show ((1 : Int)).toNat = 1 from rfl] at hx51_0)
   (try simp only [Nat.reduceMul, Nat.zero_mul, Nat.zero_add, Nat.reduceAdd] at hx51_0)
   (try rw [show ((1 : Int)).toNat = 1 from rfl] at hf51_0)
   (try simp only [Nat.reduceMul, Nat.zero_mul, Nat.zero_add, Nat.reduceAdd] at hf51_0)
   (try rw [show ((1 : Int)).toNat = 1 from rfl] at hx51_1)
   (try simp only [Nat.reduceMul, Nat.zero_mul, Nat.zero_add, Nat.reduceAdd] at hx51_1)
   (try rw [show ((1 : Int)).toNat = 1 from rfl] at hf51_1)
   (try simp only [Nat.reduceMul, Nat.zero_mul, Nat.zero_add, Nat.reduceAdd] at hf51_1)
   replace p51 := eq_true p51
   replace q51 := eq_true q51
   have HX53 := a_ (show Kd.R k26 26 w15 w.heap.size (fun _ => True) (.slice (some ⟨go51, 0, none⟩) y231.length co11) y231 from (hR_ HO233.out))
   obtain ⟨ce53, hcl53, hM53, hcc53, hfr53⟩ := Kd.R_elem HX53.out z26 (1 : Int) (by omega) (by have h_ : (1 : Int) < ((y231.length : Int) : Int) := of_decide_eq_true hA_; first | exact h_ | (have e_ := (Kd.R_reads' HO233.out).1; omega) | simpa using h_)
   obtain rfl := k26_openM hM53
   have HP53 := Kd.R_seg HX53.out (1 : Int) (by omega) (by have h_ : (1 : Int) < ((y231.length : Int) : Int) := of_decide_eq_true hA_; first | exact h_ | (have e_ := (Kd.R_reads' HO233.out).1; omega) | simpa using h_) (seg := [.int .i64 (wrap64 (4 + (wrap64 (1 + (Go.bits .and .i64 a1 1023)))))]) (j := 0) hcl53 hcc53 (show 1 ≤ 2 from by decide) (x' := (⟨wrap64 (4 + (wrap64 (1 + (Go.bits .and .i64 a1 1023)))), (rd_T26 y231 1).f1⟩ : S26)) (k26_mkM _ _ _ (⟨wrap64 (4 + (wrap64 (1 + (Go.bits .and .i64 a1 1023)))), (rd_T26 y231 1).f1⟩ : S26) ) (fun _ hk => hk)
   have hx53_0 := hcc53 0 _ rfl
   (try simp only [show (k26).sz = 2 from rfl, Nat.mul_one, Nat.add_zero] at hx53_0)
   (try rw [show ((1 : Int)).toNat = 1 from rfl] at hx53_0)
   (try simp only [Nat.reduceMul, Nat.zero_mul, Nat.zero_add, Nat.reduceAdd] at hx53_0)
   have hf53_0 := hfr53 0
   (try simp only [show (k26).sz = 2 from rfl, Nat.mul_one, Nat.add_zero] at hf53_0)
   (try rw [show ((1 : Int)).toNat = 1 from rfl] at hf53_0)
   (try simp only [Nat.reduceMul, Nat.zero_mul, Nat.zero_add, Nat.reduceAdd] at hf53_0)
   clear hcl53 hcc53 hfr53 hM53
   go_wp2_with (first | ((with_reducible refine gate_store (t := 3) (p := 78) rfl ?_); refine store_event (t := 3) (p := 78) (v := ?vo_w54) (w1 := (w15.setCell ⟨go51, 2, none⟩ (.int .i64 (wrap64 (4 + (wrap64 (1 + (Go.bits .and .i64 a1 1023)))))))) ?hg ?ho ?hn ?hr ?_; (case ho => rfl); (case hg => rfl); (case hn => rfl); (case hr => first | (go_simp; done) | (go_simp; rfl)); intro w54 hw; have hg : w15.grownBy w54 (some go51) := (by rw [hw]; exact HP53.2); have hp_ : Kd.R k26 26 w54 w.heap.size (fun _ => True) (.slice (some ⟨go51, 0, none⟩) y231.length co11) y241 := (by rw [hw, Ny241.out]; exact HP53.1); clear HP53; replace HO230 := a_ (Kd.N_afterv (v := (.slice (some ⟨go51, 0, none⟩) y231.length co11)) (v1 := (.slice (some ⟨go51, 0, none⟩) y231.length co11)) (ok := (fun k_ => k_ ≠ gb234)) (by (with_reducible repeat (first | apply Kd.N_alloc | apply Kd.N_drewN | apply Kd.N_drew)); exact Kd.N_mono HO230.out (fun _ hk => ⟨hk.2, hk.1⟩)) hg (.inl rfl)); replace BK234 := a_ (blk_grown (hK_ BK234.out) hg (Kd.R_ne HO233.out BK234.out (by decide))); replace HO233 := a_ (hp_); replace HB := a_ ((by rw [hw]; exact below_set (HB.out) GB51.out : Below w.heap.size w w54)); clear hg hw hp_))
   go_meet
   case rel => exact ⟨_, (false), (t228), (0), (y241), (.slice Ao12 t228.length co12), (.slice (some ⟨go51, 0, none⟩) y231.length co11), hW_, H', ⟨by first | omega | exact Nat.le_refl _⟩, ⟨by (with_reducible repeat (first | apply Kd.N_alloc | apply Kd.N_drewN | apply Kd.N_drew)); exact Kd.N_mono HO230.out (fun _ hk => ⟨hk.2, hk.1⟩)⟩, ⟨hR_ HO233.out⟩, ⟨(hK_ BK234.out)⟩, ⟨hC_⟩⟩
  rw [if_neg c49] at H
  have c49b0 : ((Int.tmod (IntKind.u64.wrap (a0)) 9) == 4) = false := beq_eq_false_iff_ne.mpr c49
  have c49b1 : ((Int.tmod (IntKind.u64.wrap (a0)) 9) != 4) = true := bne_iff_ne.mpr c49
  by_cases c55 : (Int.tmod (IntKind.u64.wrap (a0)) 9) = 5
  case pos =>
   rw [if_pos c55] at H
   have c55b0 : ((Int.tmod (IntKind.u64.wrap (a0)) 9) == 5) = true := beq_iff_eq.mpr c55
   have c55b1 : ((Int.tmod (IntKind.u64.wrap (a0)) 9) != 5) = false := bne_eq_false_iff_eq.mpr c55
   clear c55
   replace H := ifI_ H; obtain ⟨c56, H⟩ := H
   have c56b0 : decide (1 < (y231.length : Int)) = true := decide_eq_true c56
   have c56b1 : decide (1 < y231.length) = true := decide_eq_true (by omega)
   clear c56
   obtain ⟨y242, hy242⟩ : ∃ y_ : List (S26), y_ = (y231.set (1 : Int).toNat (⟨(rd_T26 y231 1).f0, wrap64 (1 - (wrap64 (1 + (Go.bits .and .i64 a1 1023))))⟩ : S26)) := ⟨_, rfl⟩
   replace H : (sleuthlaw20_NextForms.j1 k false t228 0 y242) = some r := by first | (rw [hy242]; with_reducible exact H) | (have H2_ := (Option.bind_some _ _).symm.trans H; rw [hy242]; with_reducible exact H2_) | (have H2_ := (Option.bind_some _ _).symm.trans H; with_reducible exact H2_) | with_reducible exact H | (rw [hy242]; exact H) | exact H
   have Ny242 := a_ hy242
   clear hy242
   have H' := a_ H
   clear H
   obtain ⟨hcz58_0, hcz58_1, hcz58_2, hfz58_0, hfz58_1, hfz58_2⟩ := bx3_ BK234.out
   have p57 : 0 ≤ (1 : Int) := (by omega)
   have q57 : (1 : Int) < ((y231.length : Int) : Int) := of_decide_eq_true hA_
   have qi57 : (1 < y231.length) = True := eq_true (by omega)
   obtain ⟨go57, co57, eo57, gb57, gl57, cl57, HG57⟩ := Kd.R_form HO233.out (by omega)
   (first | cases eo57 | (injection eo57 with ea_ en_ ec_; (first | subst ea_ | (injection ea_ with ea_; subst ea_)); subst ec_; clear en_))
   have GB57 := a_ gb57
   have GG57 := a_ HG57
   clear gb57 gl57 HG57
   obtain ⟨ce57, hcl57, hM57, hcc57, hfr57⟩ := Kd.R_elem HO233.out z26 (1 : Int) p57 q57
   obtain rfl := k26_openM hM57
   have hx57_0 : w15.cell? ⟨go57, (1 : Int).toNat * 2, none⟩ = some (.int .i64 ((rd_T26 y231 1).f0)) := hcc57 0 _ rfl
   have hx57_1 : w15.cell? ⟨go57, (1 : Int).toNat * 2 + 1, none⟩ = some (.int .i64 ((rd_T26 y231 1).f1)) := hcc57 1 _ rfl
   have hf57_0 : w15.frozen? ⟨go57, (1 : Int).toNat * 2, none⟩ = false := hfr57 0
   have hf57_1 : w15.frozen? ⟨go57, (1 : Int).toNat * 2 + 1, none⟩ = false := hfr57 1
   clear hcl57 hcc57 hfr57 hM57
   (try rw [show ((1 : Int)).toNat = 1 from rfl] at hx57_0)
   (try simp only [Nat.reduceMul, Nat.zero_mul, Nat.zero_add, Nat.reduceAdd] at hx57_0)
   (try rw [show ((1 : Int)).toNat = 1 from rfl] at hf57_0)
   (try simp only [Nat.reduceMul, Nat.zero_mul, Nat.zero_add, Nat.reduceAdd] at hf57_0)
   (try rw [show ((1 : Int)).toNat = 1 from rfl] at hx57_1)
   (try simp only [Nat.reduceMul, Nat.zero_mul, Nat.zero_add, Nat.reduceAdd] at hx57_1)
   (try rw [show ((1 : Int)).toNat = 1 from rfl] at hf57_1)
   (try simp only [Nat.reduceMul, Nat.zero_mul, Nat.zero_add, Nat.reduceAdd] at hf57_1)
   replace p57 := eq_true p57
   replace q57 := eq_true q57
   have HX59 := a_ (show Kd.R k26 26 w15 w.heap.size (fun _ => True) (.slice (some ⟨go57, 0, none⟩) y231.length co11) y231 from (hR_ HO233.out))
   obtain ⟨ce59, hcl59, hM59, hcc59, hfr59⟩ := Kd.R_elem HX59.out z26 (1 : Int) (by omega) (by have h_ : (1 : Int) < ((y231.length : Int) : Int) := of_decide_eq_true hA_; first | exact h_ | (have e_ := (Kd.R_reads' HO233.out).1; omega) | simpa using h_)
   obtain rfl := k26_openM hM59
   have HP59 := Kd.R_seg HX59.out (1 : Int) (by omega) (by have h_ : (1 : Int) < ((y231.length : Int) : Int) := of_decide_eq_true hA_; first | exact h_ | (have e_ := (Kd.R_reads' HO233.out).1; omega) | simpa using h_) (seg := [.int .i64 (wrap64 (1 - (wrap64 (1 + (Go.bits .and .i64 a1 1023)))))]) (j := 1) hcl59 hcc59 (show 2 ≤ 2 from by decide) (x' := (⟨(rd_T26 y231 1).f0, wrap64 (1 - (wrap64 (1 + (Go.bits .and .i64 a1 1023))))⟩ : S26)) (k26_mkM _ _ _ (⟨(rd_T26 y231 1).f0, wrap64 (1 - (wrap64 (1 + (Go.bits .and .i64 a1 1023))))⟩ : S26) ) (fun _ hk => hk)
   have hx59_1 := hcc59 1 _ rfl
   (try simp only [show (k26).sz = 2 from rfl, Nat.mul_one, Nat.add_zero] at hx59_1)
   (try rw [show ((1 : Int)).toNat = 1 from rfl] at hx59_1)
   (try simp only [Nat.reduceMul, Nat.zero_mul, Nat.zero_add, Nat.reduceAdd] at hx59_1)
   have hf59_1 := hfr59 1
   (try simp only [show (k26).sz = 2 from rfl, Nat.mul_one, Nat.add_zero] at hf59_1)
   (try rw [show ((1 : Int)).toNat = 1 from rfl] at hf59_1)
   (try simp only [Nat.reduceMul, Nat.zero_mul, Nat.zero_add, Nat.reduceAdd] at hf59_1)
   clear hcl59 hcc59 hfr59 hM59
   go_wp2_with (first | ((with_reducible refine gate_store (t := 3) (p := 86) rfl ?_); refine store_event (t := 3) (p := 86) (v := ?vo_w60) (w1 := (w15.setCell ⟨go57, 3, none⟩ (.int .i64 (wrap64 (1 - (wrap64 (1 + (Go.bits .and .i64 a1 1023)))))))) ?hg ?ho ?hn ?hr ?_; (case ho => rfl); (case hg => rfl); (case hn => rfl); (case hr => first | (go_simp; done) | (go_simp; rfl)); intro w60 hw; have hg : w15.grownBy w60 (some go57) := (by rw [hw]; exact HP59.2); have hp_ : Kd.R k26 26 w60 w.heap.size (fun _ => True) (.slice (some ⟨go57, 0, none⟩) y231.length co11) y242 := (by rw [hw, Ny242.out]; exact HP59.1); clear HP59; replace HO230 := a_ (Kd.N_afterv (v := (.slice (some ⟨go57, 0, none⟩) y231.length co11)) (v1 := (.slice (some ⟨go57, 0, none⟩) y231.length co11)) (ok := (fun k_ => k_ ≠ gb234)) (by (with_reducible repeat (first | apply Kd.N_alloc | apply Kd.N_drewN | apply Kd.N_drew)); exact Kd.N_mono HO230.out (fun _ hk => ⟨hk.2, hk.1⟩)) hg (.inl rfl)); replace BK234 := a_ (blk_grown (hK_ BK234.out) hg (Kd.R_ne HO233.out BK234.out (by decide))); replace HO233 := a_ (hp_); replace HB := a_ ((by rw [hw]; exact below_set (HB.out) GB57.out : Below w.heap.size w w60)); clear hg hw hp_))
   go_meet
   case rel => exact ⟨_, (false), (t228), (0), (y242), (.slice Ao12 t228.length co12), (.slice (some ⟨go57, 0, none⟩) y231.length co11), hW_, H', ⟨by first | omega | exact Nat.le_refl _⟩, ⟨by (with_reducible repeat (first | apply Kd.N_alloc | apply Kd.N_drewN | apply Kd.N_drew)); exact Kd.N_mono HO230.out (fun _ hk => ⟨hk.2, hk.1⟩)⟩, ⟨hR_ HO233.out⟩, ⟨(hK_ BK234.out)⟩, ⟨hC_⟩⟩
  rw [if_neg c55] at H
  have c55b0 : ((Int.tmod (IntKind.u64.wrap (a0)) 9) == 5) = false := beq_eq_false_iff_ne.mpr c55
  have c55b1 : ((Int.tmod (IntKind.u64.wrap (a0)) 9) != 5) = true := bne_iff_ne.mpr c55
  by_cases c61 : (Int.tmod (IntKind.u64.wrap (a0)) 9) = 6
  case neg =>
   rw [if_neg c61] at H
   have c61b0 : ((Int.tmod (IntKind.u64.wrap (a0)) 9) == 6) = false := beq_eq_false_iff_ne.mpr c61
   have c61b1 : ((Int.tmod (IntKind.u64.wrap (a0)) 9) != 6) = true := bne_iff_ne.mpr c61
   obtain ⟨y244, hy244⟩ : ∃ y_ : List Int, y_ = (([wrap64 (-(wrap64 (1 + (Go.bits .and .i64 a1 1023)))), wrap64 (1 + (wrap64 (1 + (Go.bits .and .i64 a1 1023))))] : List Int)) := ⟨_, rfl⟩
   replace H : (if 0 ≤ (Go.bits .and .i64 a0 1) then (if (Go.bits .and .i64 a0 1) < (y244.length : Int) then (sleuthlaw20_NextForms.j1 k true t228 (rd y244 (Go.bits .and .i64 a0 1)) y231) else (none)) else (none)) = some r := by first | (rw [hy244]; with_reducible exact H) | (have H2_ := (Option.bind_some _ _).symm.trans H; rw [hy244]; with_reducible exact H2_) | (have H2_ := (Option.bind_some _ _).symm.trans H; with_reducible exact H2_) | with_reducible exact H | (rw [hy244]; exact H) | exact H
   have Ny244 := a_ hy244
   clear hy244
   replace H := ifI_ H; obtain ⟨c67, H⟩ := H
   have c67b0 : decide (0 ≤ (Go.bits .and .i64 a0 1)) = true := decide_eq_true c67
   clear c67
   replace H := ifI_ H; obtain ⟨c68, H⟩ := H
   have c68b0 : decide ((Go.bits .and .i64 a0 1) < (y244.length : Int)) = true := decide_eq_true c68
   clear c68
   have H' := a_ H
   clear H
   go_wp2_with (first | ((with_reducible refine gate_dst (N := 30) rfl ?_); (try (refine gate_guard (by rfl) ?_; dsimp only)); refine Kd.R_lit (Kd.int .i64) _ 3 ?hg (N := 30) ?hd (xs := ([wrap64 (-(wrap64 (1 + (Go.bits .and .i64 a1 1023)))), wrap64 (1 + (wrap64 (1 + (Go.bits .and .i64 a1 1023))))] : List Int)) (inner := [.int .i64 (wrap64 (-(wrap64 (1 + (Go.bits .and .i64 a1 1023))))), .int .i64 (wrap64 (1 + (wrap64 (1 + (Go.bits .and .i64 a1 1023)))))]) (ok := fun _ => True) (okp := fun _ => True) ?hr ?hp (fun _ hk => hk) trivial (Below.refl _ _) (Nat.le_refl _) (by simp) ?_; (case hd => rfl); (case hg => rfl); (case hr => first | (go_simp; done) | (go_simp; rfl)); (case hp => exact (Reps.one (show Kd.M (Kd.int .i64) _ _ _ (wrap64 (-(wrap64 (1 + (Go.bits .and .i64 a1 1023))))) [.int .i64 (wrap64 (-(wrap64 (1 + (Go.bits .and .i64 a1 1023)))))] from rfl) (Reps.one (show Kd.M (Kd.int .i64) _ _ _ (wrap64 (1 + (wrap64 (1 + (Go.bits .and .i64 a1 1023))))) [.int .i64 (wrap64 (1 + (wrap64 (1 + (Go.bits .and .i64 a1 1023)))))] from rfl) (Reps.none _ _)))); intro v245 w69 ho70 hb hg_ hnew_; clear hg_ hnew_; (first | rw [← Ny244.out] at ho70 | (simp only [Int.reduceToNat] at ho70; rw [← Ny244.out] at ho70)); replace HO230 := a_ (Kd.N_elder' (hN_ HO230.out) (Kd.R_base ho70) hb); replace HO233 := a_ (Kd.R_below (hR_ HO233.out) hb); have HO246 := a_ (Kd.R_lower ho70 (below_size hC_)); replace BK234 := a_ (bB_ BK234.out hb); replace HB := a_ (below_step hC_ hb); clear hb ho70; obtain ⟨Ao71, co71, eo71⟩ := Kd.R_slice HO246.out; subst eo71; have p247 : 0 ≤ ((Go.bits .and .i64 a0 1) : Int) := of_decide_eq_true hA_; have q247 : (Go.bits .and .i64 a0 1) < (y244.length : Int) := of_decide_eq_true hA_; obtain ⟨ad247, e247, hx247_0⟩ := Kd.at_int (Kd.R_reads' HO246.out).2.2 (Go.bits .and .i64 a0 1) p247 q247; cases e247; replace p247 := eq_true p247; replace q247 := eq_true q247; obtain ⟨hcz72_0, hcz72_1, hcz72_2, hfz72_0, hfz72_1, hfz72_2⟩ := bx3_ BK234.out) | ((with_reducible refine gate_store (t := 3) (p := 35) rfl ?_); refine store_event (t := 3) (p := 35) (v := ?vo_w73) (w1 := (w69.setCell ⟨gb234, 1, none⟩ (.int .i64 (rd y244 (Go.bits .and .i64 a0 1))))) ?hg ?ho ?hn ?hr ?_; (case ho => rfl); (case hg => rfl); (case hn => rfl); (case hr => first | (go_simp; done) | (go_simp; rfl)); intro w73 hw; replace HO230 : Aside0 (Kd.N k33 33 w73 w.heap.size (fun k_ => some k_ ≠ (.slice Ao11 y231.length co11 : Value).ownBlock ∧ some k_ ≠ (.slice (some ad247) y244.length co71 : Value).ownBlock ∧ k_ ≠ gb234) (.slice Ao12 t228.length co12) t228) := ⟨(by rw [hw]; exact (by (with_reducible repeat (first | apply Kd.N_alloc | apply Kd.N_drewN | apply Kd.N_drew)); exact Kd.N_mono (nF_ (Kd.N_mono HO230.out (fun k_ hk => (⟨hk, hk.1.2⟩ : _ ∧ k_ ≠ gb234)))) (fun _ hk => ⟨hk.1.1.1, ⟨hk.1.2, hk.1.1.2⟩⟩)))⟩; replace HO233 : Aside0 (Kd.R k26 26 w73 w.heap.size (fun _ => True) (.slice Ao11 y231.length co11) y231) := ⟨(by rw [hw]; exact (by (with_reducible repeat (first | apply Kd.R_alloc | apply Kd.R_drewN | apply Kd.R_drew)); exact Kd.R_mono (rF_ (Kd.R_types HO233.out BK234.out (by decide))) (fun _ hk => trivial)))⟩; replace HO246 : Aside0 (Kd.R (Kd.int .i64) 3 w73 w.heap.size (fun _ => True) (.slice (some ad247) y244.length co71) y244) := ⟨(by rw [hw]; exact (by (with_reducible repeat (first | apply Kd.R_alloc | apply Kd.R_drewN | apply Kd.R_drew)); exact Kd.R_mono (rF_ (Kd.R_types HO246.out BK234.out (by decide))) (fun _ hk => trivial)))⟩; replace BK234 : Aside0 (w73.heap[gb234]? = some (.cells #[.slice Ao12 t228.length co12, .int .i64 (rd y244 (Go.bits .and .i64 a0 1)), .slice Ao11 y231.length co11] 29 (0, 0))) := ⟨(by rw [hw]; exact (bP_ (hK_ BK234.out)))⟩; replace HB : Aside0 (Below w.heap.size w w73) := ⟨(by rw [hw]; exact hC_)⟩; clear hw))
   go_meet
   case rel => exact ⟨_, (true), (t228), (rd y244 (Go.bits .and .i64 a0 1)), (y231), (.slice Ao12 t228.length co12), (.slice Ao11 y231.length co11), hW_, H', ⟨by first | omega | exact Nat.le_refl _⟩, ⟨by (with_reducible repeat (first | apply Kd.N_alloc | apply Kd.N_drewN | apply Kd.N_drew)); exact Kd.N_mono HO230.out (fun _ hk => ⟨hk.1, hk.2.2⟩)⟩, ⟨hR_ HO233.out⟩, ⟨(hK_ BK234.out)⟩, ⟨hC_⟩⟩
  rw [if_pos c61] at H
  have c61b0 : ((Int.tmod (IntKind.u64.wrap (a0)) 9) == 6) = true := beq_iff_eq.mpr c61
  have c61b1 : ((Int.tmod (IntKind.u64.wrap (a0)) 9) != 6) = false := bne_eq_false_iff_eq.mpr c61
  clear c61
  replace H := ifI_ H; obtain ⟨c62, H⟩ := H
  have c62b0 : decide (1 < (y231.length : Int)) = true := decide_eq_true c62
  have c62b1 : decide (1 < y231.length) = true := decide_eq_true (by omega)
  clear c62
  obtain ⟨y243, hy243⟩ : ∃ y_ : List (S26), y_ = (y231.set (1 : Int).toNat (⟨(rd_T26 y231 1).f0, wrap64 (3 + (wrap64 (1 + (Go.bits .and .i64 a1 1023))))⟩ : S26)) := ⟨_, rfl⟩
  replace H : (sleuthlaw20_NextForms.j1 k false t228 0 y243) = some r := by first | (rw [hy243]; with_reducible exact H) | (have H2_ := (Option.bind_some _ _).symm.trans H; rw [hy243]; with_reducible exact H2_) | (have H2_ := (Option.bind_some _ _).symm.trans H; with_reducible exact H2_) | with_reducible exact H | (rw [hy243]; exact H) | exact H
  have Ny243 := a_ hy243
  clear hy243
  have H' := a_ H
  clear H
  obtain ⟨hcz64_0, hcz64_1, hcz64_2, hfz64_0, hfz64_1, hfz64_2⟩ := bx3_ BK234.out
  have p63 : 0 ≤ (1 : Int) := (by omega)
  have q63 : (1 : Int) < ((y231.length : Int) : Int) := of_decide_eq_true hA_
  have qi63 : (1 < y231.length) = True := eq_true (by omega)
  obtain ⟨go63, co63, eo63, gb63, gl63, cl63, HG63⟩ := Kd.R_form HO233.out (by omega)
  (first | cases eo63 | (injection eo63 with ea_ en_ ec_; (first | subst ea_ | (injection ea_ with ea_; subst ea_)); subst ec_; clear en_))
  have GB63 := a_ gb63
  have GG63 := a_ HG63
  clear gb63 gl63 HG63
  obtain ⟨ce63, hcl63, hM63, hcc63, hfr63⟩ := Kd.R_elem HO233.out z26 (1 : Int) p63 q63
  obtain rfl := k26_openM hM63
  have hx63_0 : w15.cell? ⟨go63, (1 : Int).toNat * 2, none⟩ = some (.int .i64 ((rd_T26 y231 1).f0)) := hcc63 0 _ rfl
  have hx63_1 : w15.cell? ⟨go63, (1 : Int).toNat * 2 + 1, none⟩ = some (.int .i64 ((rd_T26 y231 1).f1)) := hcc63 1 _ rfl
  have hf63_0 : w15.frozen? ⟨go63, (1 : Int).toNat * 2, none⟩ = false := hfr63 0
  have hf63_1 : w15.frozen? ⟨go63, (1 : Int).toNat * 2 + 1, none⟩ = false := hfr63 1
  clear hcl63 hcc63 hfr63 hM63
  (try rw [show ((1 : Int)).toNat = 1 from rfl] at hx63_0)
  (try simp only [Nat.reduceMul, Nat.zero_mul, Nat.zero_add, Nat.reduceAdd] at hx63_0)
  (try rw [show ((1 : Int)).toNat = 1 from rfl] at hf63_0)
  (try simp only [Nat.reduceMul, Nat.zero_mul, Nat.zero_add, Nat.reduceAdd] at hf63_0)
  (try rw [show ((1 : Int)).toNat = 1 from rfl] at hx63_1)
  (try simp only [Nat.reduceMul, Nat.zero_mul, Nat.zero_add, Nat.reduceAdd] at hx63_1)
  (try rw [show ((1 : Int)).toNat = 1 from rfl] at hf63_1)
  (try simp only [Nat.reduceMul, Nat.zero_mul, Nat.zero_add, Nat.reduceAdd] at hf63_1)
  replace p63 := eq_true p63
  replace q63 := eq_true q63
  have HX65 := a_ (show Kd.R k26 26 w15 w.heap.size (fun _ => True) (.slice (some ⟨go63, 0, none⟩) y231.length co11) y231 from (hR_ HO233.out))
  obtain ⟨ce65, hcl65, hM65, hcc65, hfr65⟩ := Kd.R_elem HX65.out z26 (1 : Int) (by omega) (by have h_ : (1 : Int) < ((y231.length : Int) : Int) := of_decide_eq_true hA_; first | exact h_ | (have e_ := (Kd.R_reads' HO233.out).1; omega) | simpa using h_)
  obtain rfl := k26_openM hM65
  have HP65 := Kd.R_seg HX65.out (1 : Int) (by omega) (by have h_ : (1 : Int) < ((y231.length : Int) : Int) := of_decide_eq_true hA_; first | exact h_ | (have e_ := (Kd.R_reads' HO233.out).1; omega) | simpa using h_) (seg := [.int .i64 (wrap64 (3 + (wrap64 (1 + (Go.bits .and .i64 a1 1023)))))]) (j := 1) hcl65 hcc65 (show 2 ≤ 2 from by decide) (x' := (⟨(rd_T26 y231 1).f0, wrap64 (3 + (wrap64 (1 + (Go.bits .and .i64 a1 1023))))⟩ : S26)) (k26_mkM _ _ _ (⟨(rd_T26 y231 1).f0, wrap64 (3 + (wrap64 (1 + (Go.bits .and .i64 a1 1023))))⟩ : S26) ) (fun _ hk => hk)
  have hx65_1 := hcc65 1 _ rfl
  (try simp only [show (k26).sz = 2 from rfl, Nat.mul_one, Nat.add_zero] at hx65_1)
  (try rw [show ((1 : Int)).toNat = 1 from rfl] at hx65_1)
  (try simp only [Nat.reduceMul, Nat.zero_mul, Nat.zero_add, Nat.reduceAdd] at hx65_1)
  have hf65_1 := hfr65 1
  (try simp only [show (k26).sz = 2 from rfl, Nat.mul_one, Nat.add_zero] at hf65_1)
  (try rw [show ((1 : Int)).toNat = 1 from rfl] at hf65_1)
  (try simp only [Nat.reduceMul, Nat.zero_mul, Nat.zero_add, Nat.reduceAdd] at hf65_1)
  clear hcl65 hcc65 hfr65 hM65
  go_wp2_with (first | ((with_reducible refine gate_store (t := 3) (p := 94) rfl ?_); refine store_event (t := 3) (p := 94) (v := ?vo_w66) (w1 := (w15.setCell ⟨go63, 3, none⟩ (.int .i64 (wrap64 (3 + (wrap64 (1 + (Go.bits .and .i64 a1 1023)))))))) ?hg ?ho ?hn ?hr ?_; (case ho => rfl); (case hg => rfl); (case hn => rfl); (case hr => first | (go_simp; done) | (go_simp; rfl)); intro w66 hw; have hg : w15.grownBy w66 (some go63) := (by rw [hw]; exact HP65.2); have hp_ : Kd.R k26 26 w66 w.heap.size (fun _ => True) (.slice (some ⟨go63, 0, none⟩) y231.length co11) y243 := (by rw [hw, Ny243.out]; exact HP65.1); clear HP65; replace HO230 := a_ (Kd.N_afterv (v := (.slice (some ⟨go63, 0, none⟩) y231.length co11)) (v1 := (.slice (some ⟨go63, 0, none⟩) y231.length co11)) (ok := (fun k_ => k_ ≠ gb234)) (by (with_reducible repeat (first | apply Kd.N_alloc | apply Kd.N_drewN | apply Kd.N_drew)); exact Kd.N_mono HO230.out (fun _ hk => ⟨hk.2, hk.1⟩)) hg (.inl rfl)); replace BK234 := a_ (blk_grown (hK_ BK234.out) hg (Kd.R_ne HO233.out BK234.out (by decide))); replace HO233 := a_ (hp_); replace HB := a_ ((by rw [hw]; exact below_set (HB.out) GB63.out : Below w.heap.size w w66)); clear hg hw hp_))
  go_meet
  case rel => exact ⟨_, (false), (t228), (0), (y243), (.slice Ao12 t228.length co12), (.slice (some ⟨go63, 0, none⟩) y231.length co11), hW_, H', ⟨by first | omega | exact Nat.le_refl _⟩, ⟨by (with_reducible repeat (first | apply Kd.N_alloc | apply Kd.N_drewN | apply Kd.N_drew)); exact Kd.N_mono HO230.out (fun _ hk => ⟨hk.2, hk.1⟩)⟩, ⟨hR_ HO233.out⟩, ⟨(hK_ BK234.out)⟩, ⟨hC_⟩⟩
 case rest =>
  clear HC6
  try clear c1
  try clear c2
  try clear p2
  try clear q2
  try clear hx2
  try clear qi2
  try clear hf2
  try clear c3
  try clear p3
  try clear q3
  try clear hx3
  try clear hf3
  try clear c4
  try clear p4
  try clear q4
  try clear hx4
  try clear qi4
  try clear hf4
  try clear c5
  try clear p5
  try clear q5
  try clear hx5
  try clear qi5
  try clear hf5
  try clear c6
  try clear p6
  try clear q6
  try clear hx6
  try clear qi6
  try clear hf6
  try clear c7
  try clear c8
  try clear c16
  try clear c16b0
  try clear c16b1
  try clear c19
  try clear c19b0
  try clear c19b1
  try clear c20
  try clear c20b0
  try clear c20b1
  try clear c21
  try clear p21
  try clear q21
  try clear hx21
  try clear qi21
  try clear hf21
  try clear c23
  try clear hx23
  try clear hf23
  try clear p24
  try clear q24
  try clear hx24
  try clear c25
  try clear c25b0
  try clear c25b1
  try clear c27
  try clear c27b0
  try clear c27b1
  try clear c28
  try clear c28b0
  try clear c28b1
  try clear c34
  try clear c34b0
  try clear c35
  try clear c35b0
  try clear c36
  try clear p36
  try clear q36
  try clear hx36
  try clear hf36
  try clear c39
  try clear hx39
  try clear hf39
  try clear c43
  try clear c43b0
  try clear c43b1
  try clear c44
  try clear c44b0
  try clear c44b1
  try clear c45
  try clear p45
  try clear q45
  try clear hx45
  try clear qi45
  try clear hf45
  try clear c47
  try clear hx47
  try clear hf47
  try clear c49
  try clear c49b0
  try clear c49b1
  try clear c50
  try clear c50b0
  try clear c50b1
  try clear c51
  try clear p51
  try clear q51
  try clear hx51
  try clear qi51
  try clear hf51
  try clear c53
  try clear hx53
  try clear hf53
  try clear c55
  try clear c55b0
  try clear c55b1
  try clear c56
  try clear c56b0
  try clear c56b1
  try clear c57
  try clear p57
  try clear q57
  try clear hx57
  try clear qi57
  try clear hf57
  try clear c59
  try clear hx59
  try clear hf59
  try clear c61
  try clear c61b0
  try clear c61b1
  try clear c62
  try clear c62b0
  try clear c62b1
  try clear c63
  try clear p63
  try clear q63
  try clear hx63
  try clear qi63
  try clear hf63
  try clear p64
  try clear c65
  try clear hx65
  try clear hf65
  try clear c67
  try clear c67b0
  try clear c68
  try clear c68b0
  try clear hji26
  try clear hji26w
  try clear hcz14_0
  try clear hcz14_1
  try clear hcz14_2
  try clear hcz17_0
  try clear hcz17_1
  try clear hcz17_2
  try clear hcz22_0
  try clear hcz22_1
  try clear hcz22_2
  try clear hcz32_0
  try clear hcz32_1
  try clear hcz32_2
  try clear hcz37_0
  try clear hcz37_1
  try clear hcz37_2
  try clear hcz41_0
  try clear hcz41_1
  try clear hcz41_2
  try clear hcz46_0
  try clear hcz46_1
  try clear hcz46_2
  try clear hcz52_0
  try clear hcz52_1
  try clear hcz52_2
  try clear hcz58_0
  try clear hcz58_1
  try clear hcz58_2
  try clear hcz64_0
  try clear hcz64_1
  try clear hcz64_2
  try clear hcz72_0
  try clear hcz72_1
  try clear hcz72_2
  try clear hfz14_0
  try clear hfz14_1
  try clear hfz14_2
  try clear hfz17_0
  try clear hfz17_1
  try clear hfz17_2
  try clear hfz22_0
  try clear hfz22_1
  try clear hfz22_2
  try clear hfz32_0
  try clear hfz32_1
  try clear hfz32_2
  try clear hfz37_0
  try clear hfz37_1
  try clear hfz37_2
  try clear hfz41_0
  try clear hfz41_1
  try clear hfz41_2
  try clear hfz46_0
  try clear hfz46_1
  try clear hfz46_2
  try clear hfz52_0
  try clear hfz52_1
  try clear hfz52_2
  try clear hfz58_0
  try clear hfz58_1
  try clear hfz58_2
  try clear hfz64_0
  try clear hfz64_1
  try clear hfz64_2
  try clear hfz72_0
  try clear hfz72_1
  try clear hfz72_2
  try clear hx21_0
  try clear hx21_1
  try clear hx21_2
  try clear hx21_3
  try clear hx23_1
  try clear hx247_0
  try clear hx36_0
  try clear hx36_1
  try clear hx39_1
  try clear hx45_0
  try clear hx45_1
  try clear hx47_0
  try clear hx51_0
  try clear hx51_1
  try clear hx53_0
  try clear hx57_0
  try clear hx57_1
  try clear hx59_1
  try clear hx63_0
  try clear hx63_1
  try clear hx65_1
  try clear p2
  try clear p21
  try clear p247
  try clear p36
  try clear p45
  try clear p51
  try clear p57
  try clear p6
  try clear p63
  try clear q2
  try clear q21
  try clear q247
  try clear q36
  try clear q45
  try clear q51
  try clear q57
  try clear q63
  obtain ⟨kq, x7_5, x235000_5, x235001_5, x235002_5, u235000, u235002, rfl, HA, HJ5, HO_235000, HO_235002, BK234, HB⟩ := hcut
  cases kq with
  | zero => exact absurd HA.out (by simp [sleuthlaw20_NextForms.j1])
  | succ kj5 =>
   have H := HA.out
   clear HA
   simp only [sleuthlaw20_NextForms.j1] at H
   replace H := Option.bind_eq_some_iff.mp H
   obtain ⟨⟨t248, t251⟩, A740, H⟩ := H
   try dsimp only at H
   have A74 := a_ A740
   clear A740
   replace H := Option.bind_eq_some_iff.mp H
   obtain ⟨⟨t252, t253, t254⟩, A750, H⟩ := H
   try dsimp only at H
   have A75 := a_ A750
   clear A750
   by_cases c76 : x7_5 = true
   case pos =>
    subst c76
    rw [if_pos rfl] at H
    replace H := Option.bind_eq_some_iff.mp H
    obtain ⟨t256, A770, H⟩ := H
    try dsimp only at H
    have A77 := a_ A770
    clear A770
    by_cases c78 : t256 = 0
    case neg =>
     rw [if_neg c78] at H
     have c78b0 : (t256 == 0) = false := beq_eq_false_iff_ne.mpr c78
     have c78b1 : (t256 != 0) = true := bne_iff_ne.mpr c78
     cases H
    rw [if_pos c78] at H
    have c78b0 : (t256 == 0) = true := beq_iff_eq.mpr c78
    have c78b1 : (t256 != 0) = false := bne_eq_false_iff_eq.mpr c78
    clear c78
    by_cases c79 : (t248.length : Int) = 5
    case neg =>
     rw [if_neg c79] at H
     have c79b0 : ((t248.length : Int) == 5) = false := beq_eq_false_iff_ne.mpr c79
     have c79b1 : ((t248.length : Int) != 5) = true := bne_iff_ne.mpr c79
     cases H
    rw [if_pos c79] at H
    have c79b0 : ((t248.length : Int) == 5) = true := beq_iff_eq.mpr c79
    have c79b1 : ((t248.length : Int) != 5) = false := bne_eq_false_iff_eq.mpr c79
    clear c79
    by_cases c80 : (t252 == 0 && (t253 == 0)) = true
    case neg =>
     rw [if_neg c80] at H
     have c80b0 : (t252 == 0 && (t253 == 0)) = false := by simpa using c80
     (try (have c80b1 : decide (t252 = 0 && (t253 == 0)) = false := by simpa using c80))
     (try (have c80b2 : (t252 == 0 && (t253 == 0)) = false := by simpa using c80))
     (try (have c80b3 : ¬ (t252 = 0 && (t253 == 0)) := by simpa using c80))
     clear c80
     cases H
    rw [if_pos c80] at H
    have c80b0 : (t252 == 0 && (t253 == 0)) = true := c80
    (try (have c80b1 : decide (t252 = 0 && (t253 == 0)) = true := by simpa using c80))
    (try (have c80b2 : (t252 == 0 && (t253 == 0)) = true := by simpa using c80))
    clear c80
    replace H := Option.bind_eq_some_iff.mp H
    obtain ⟨t257, A810, H⟩ := H
    try dsimp only at H
    have A81 := a_ A810
    clear A810
    obtain rfl := Option.some.inj H
    obtain ⟨hcz82_0, hcz82_1, hcz82_2, hfz82_0, hfz82_1, hfz82_2⟩ := bx3_ BK234.out
    obtain ⟨Ao83, co83, eo83⟩ := Kd.N_slice HO_235000.out
    subst eo83
    obtain ⟨Ao84, co84, eo84⟩ := Kd.R_slice HO_235002.out
    subst eo84
    go_wp2_with (first | ((with_reducible refine gate_callee (f := 9) rfl ?_); refine goesL_ (some 97) rfl rfl Tryd.func9 (by kernel_rfl) rfl #[.agg #[.slice Ao83 x235000_5.length co83, .int .i64 x235001_5, .slice Ao84 x235002_5.length co84]] rfl hL_ ?_; (with_reducible refine (next_Marks.calls kj5 _ _ x235000_5 x235001_5 _ _ x235002_5 t248 t251 _ ?side1 ?side2 ?side3 ?side4 A74.out (by first | exact hG | exact GOK.below hG hC_)).mono ?_); (case side1 => repeat (first | exact (Kd.N_reads' HO_235000.out).2.2 | (with_reducible refine Kd.C_alloc ?_ _) | (with_reducible refine Kd.C_drewN ?_ _) | (with_reducible refine Kd.C_drew ?_))); (case side2 => exact (Kd.N_reads' HO_235000.out).2.1); (case side3 => exact cC_ (Kd.R_reads' HO_235002.out).2.2); (case side4 => exact (Kd.R_reads' HO_235002.out).2.1); rintro e w85 ⟨v249, rfl, ho0, hb⟩; refine ⟨_, rfl, ?_⟩; replace HO_235000 := a_ (Kd.N_elder' (hN_ HO_235000.out) (Kd.R_base ho0) hb); replace HO_235002 := a_ (Kd.R_below (hR_ HO_235002.out) hb); have HO250 := a_ (Kd.R_lower ho0 (below_size hC_)); replace BK234 := a_ (bB_ BK234.out hb); replace HB := a_ (below_step hC_ hb); (try clear hb); (try clear hb2); (try clear hk); (try clear hi); (try clear ho0); obtain ⟨hcz86_0, hcz86_1, hcz86_2, hfz86_0, hfz86_1, hfz86_2⟩ := bx3_ BK234.out) | ((with_reducible refine gate_callee (f := 10) rfl ?_); refine goesL_ (some 102) rfl rfl Tryd.func10 (by kernel_rfl) rfl #[.agg #[.slice Ao83 x235000_5.length co83, .int .i64 x235001_5, .slice Ao84 x235002_5.length co84]] rfl hL_ ?_; (with_reducible refine (next_Step.calls kj5 _ _ x235000_5 x235001_5 _ _ x235002_5 t252 t253 t254 _ ?side1 ?side2 ?side3 ?side4 A75.out (by first | exact hG | exact GOK.below hG hC_)).mono ?_); (case side1 => repeat (first | exact (Kd.N_reads' HO_235000.out).2.2 | (with_reducible refine Kd.C_alloc ?_ _) | (with_reducible refine Kd.C_drewN ?_ _) | (with_reducible refine Kd.C_drew ?_))); (case side2 => exact (Kd.N_reads' HO_235000.out).2.1); (case side3 => exact cC_ (Kd.R_reads' HO_235002.out).2.2); (case side4 => exact (Kd.R_reads' HO_235002.out).2.1); rintro e w87 ⟨rfl, hb⟩; refine ⟨_, rfl, ?_⟩; replace HO_235000 := a_ (Kd.N_below (hN_ HO_235000.out) hb); replace HO_235002 := a_ (Kd.R_below (hR_ HO_235002.out) hb); replace HO250 := a_ (Kd.R_below (hR_ HO250.out) hb); replace BK234 := a_ (bB_ BK234.out hb); replace HB := a_ (below_step hC_ hb); (try clear hb); (try clear hb2); (try clear hk); (try clear hi)) | ((with_reducible refine gate_dst (N := 11) rfl ?_); (try (refine gate_guard (by rfl) ?_; dsimp only)); refine boxE_ 11 #[.int .i64 0, .int .i64 0] 39 ?_; intro gb255 hg w88 hbox hb; replace HO_235000 := a_ (Kd.N_below (Kd.N_elderB (hN_ HO_235000.out) gb255 (Nat.le_of_eq hg.symm)) hb); replace HO_235002 := a_ (Kd.R_below (hR_ HO_235002.out) hb); replace HO250 := a_ (Kd.R_below (hR_ HO250.out) hb); have BK255 := a_ (hbox); have GW255 := a_ ((gE_ hg : w.heap.size ≤ gb255)); have GE255 := a_ ((gE_ hg : w.heap.size ≤ gb255)); replace HB := a_ (below_step hC_ hb); have NB234_255 := a_ ((bL_ BK234.out hg : gb234 ≠ gb255)); have NB255_234 := a_ ((bG_ BK234.out hg : gb255 ≠ gb234)); replace BK234 := a_ (bB_ BK234.out hb); clear hb hbox hg; have hnb89 := NB255_234.out; have hnc89 := NB234_255.out; obtain ⟨hcz90_0, hcz90_1, hfz90_0, hfz90_1⟩ := bx2_ BK255.out) | ((with_reducible refine gate_store (t := 39) (p := 11) rfl ?_); refine store_event (t := 39) (p := 11) (v := ?vo_w91) (w1 := ((w88.setCell ⟨gb255, 0, none⟩ (.int .i64 t252)).setCell ⟨gb255, 1, none⟩ (.int .i64 t253))) ?hg ?ho ?hn ?hr ?_; (case ho => rfl); (case hg => rfl); (case hn => rfl); (case hr => first | (go_simp; done) | (go_simp; rfl)); intro w91 hw; replace HO_235000 : Aside0 (Kd.N k33 33 w91 w.heap.size (fun k_ => some k_ ≠ (.slice Ao84 x235002_5.length co84 : Value).ownBlock ∧ some k_ ≠ (v249 : Value).ownBlock ∧ k_ ≠ gb234 ∧ k_ ≠ gb255) (.slice Ao83 x235000_5.length co83) x235000_5) := ⟨(by rw [hw]; exact (by (with_reducible repeat (first | apply Kd.N_alloc | apply Kd.N_drewN | apply Kd.N_drew)); exact Kd.N_mono (nF_ (nF_ (Kd.N_mono HO_235000.out (fun k_ hk => (⟨hk, hk.2⟩ : _ ∧ k_ ≠ gb255))))) (fun _ hk => ⟨hk.1.1.1.1, ⟨hk.1.1.2, ⟨hk.1.1.1.2, hk.1.2⟩⟩⟩)))⟩; replace HO_235002 : Aside0 (Kd.R k26 26 w91 w.heap.size (fun _ => True) (.slice Ao84 x235002_5.length co84) x235002_5) := ⟨(by rw [hw]; exact (by (with_reducible repeat (first | apply Kd.R_alloc | apply Kd.R_drewN | apply Kd.R_drew)); exact Kd.R_mono (rF_ (rF_ (Kd.R_types HO_235002.out BK255.out (by decide)))) (fun _ hk => trivial)))⟩; replace HO250 : Aside0 (Kd.R (Kd.int .i64) 3 w91 w.heap.size (fun _ => True) v249 t248) := ⟨(by rw [hw]; exact (by (with_reducible repeat (first | apply Kd.R_alloc | apply Kd.R_drewN | apply Kd.R_drew)); exact Kd.R_mono (rF_ (rF_ (Kd.R_types HO250.out BK255.out (by decide)))) (fun _ hk => trivial)))⟩; replace BK234 : Aside0 (w91.heap[gb234]? = some (.cells #[.slice Ao83 x235000_5.length co83, .int .i64 x235001_5, .slice Ao84 x235002_5.length co84] 29 (0, 0))) := ⟨(by rw [hw]; exact (bF_ (bF_ (hK_ BK234.out) NB234_255.out) NB234_255.out))⟩; replace BK255 : Aside0 (w91.heap[gb255]? = some (.cells #[.int .i64 t252, .int .i64 t253] 39 (0, 0))) := ⟨(by rw [hw]; exact (bP_ (bP_ (hK_ BK255.out))))⟩; replace HB : Aside0 (Below w.heap.size w w91) := ⟨(by rw [hw]; exact hC_)⟩; clear hw) | (go_at_call 11; (with_reducible refine (sleuthlaw0_Num.calls t251 t256 _ A77.out).mono ?_); rintro e w' ⟨rfl, ⟨nd, rfl⟩⟩; obtain ⟨Ao92, co92, eo92⟩ := Kd.R_slice HO250.out; subst eo92; obtain ⟨hcz93_0, hcz93_1, hfz93_0, hfz93_1⟩ := bx2_ BK255.out) | (go_at_call 11; (with_reducible refine (sleuthlaw0_Num.calls t254 t257 _ A81.out).mono ?_); rintro e w' ⟨rfl, ⟨nd, rfl⟩⟩))
    go_ret
    exact ⟨hV_, hC_⟩
   replace c76 := Bool.eq_false_iff.mpr c76
   subst c76
   rw [if_neg (show ¬ (false = true) by decide)] at H
   by_cases c127 : (t248.length : Int) = 0
   case neg =>
    rw [if_neg c127] at H
    have c127b0 : ((t248.length : Int) == 0) = false := beq_eq_false_iff_ne.mpr c127
    have c127b1 : ((t248.length : Int) != 0) = true := bne_iff_ne.mpr c127
    have c127b2 : ¬ (t248 = []) := fun h_ => c127 (by rw [h_]; rfl)
    cases H
   rw [if_pos c127] at H
   have c127b0 : ((t248.length : Int) == 0) = true := beq_iff_eq.mpr c127
   have c127b1 : ((t248.length : Int) != 0) = false := bne_eq_false_iff_eq.mpr c127
   clear c127
   replace H := Option.bind_eq_some_iff.mp H
   obtain ⟨t258, A1280, H⟩ := H
   try dsimp only at H
   have A128 := a_ A1280
   clear A1280
   by_cases c129 : t258 = 2000
   case neg =>
    rw [if_neg c129] at H
    have c129b0 : (t258 == 2000) = false := beq_eq_false_iff_ne.mpr c129
    have c129b1 : (t258 != 2000) = true := bne_iff_ne.mpr c129
    cases H
   rw [if_pos c129] at H
   have c129b0 : (t258 == 2000) = true := beq_iff_eq.mpr c129
   have c129b1 : (t258 != 2000) = false := bne_eq_false_iff_eq.mpr c129
   clear c129
   by_cases c130 : (t252 == 0 && (t253 == 0)) = true
   case neg =>
    rw [if_neg c130] at H
    have c130b0 : (t252 == 0 && (t253 == 0)) = false := by simpa using c130
    (try (have c130b1 : decide (t252 = 0 && (t253 == 0)) = false := by simpa using c130))
    (try (have c130b2 : (t252 == 0 && (t253 == 0)) = false := by simpa using c130))
    (try (have c130b3 : ¬ (t252 = 0 && (t253 == 0)) := by simpa using c130))
    clear c130
    cases H
   rw [if_pos c130] at H
   have c130b0 : (t252 == 0 && (t253 == 0)) = true := c130
   (try (have c130b1 : decide (t252 = 0 && (t253 == 0)) = true := by simpa using c130))
   (try (have c130b2 : (t252 == 0 && (t253 == 0)) = true := by simpa using c130))
   clear c130
   replace H := Option.bind_eq_some_iff.mp H
   obtain ⟨t259, A1310, H⟩ := H
   try dsimp only at H
   have A131 := a_ A1310
   clear A1310
   obtain rfl := Option.some.inj H
   obtain ⟨hcz132_0, hcz132_1, hcz132_2, hfz132_0, hfz132_1, hfz132_2⟩ := bx3_ BK234.out
   obtain ⟨Ao133, co133, eo133⟩ := Kd.N_slice HO_235000.out
   subst eo133
   obtain ⟨Ao134, co134, eo134⟩ := Kd.R_slice HO_235002.out
   subst eo134
   go_wp2_with (first | ((with_reducible refine gate_callee (f := 9) rfl ?_); refine goesL_ (some 97) rfl rfl Tryd.func9 (by kernel_rfl) rfl #[.agg #[.slice Ao133 x235000_5.length co133, .int .i64 x235001_5, .slice Ao134 x235002_5.length co134]] rfl hL_ ?_; (with_reducible refine (next_Marks.calls kj5 _ _ x235000_5 x235001_5 _ _ x235002_5 t248 t251 _ ?side1 ?side2 ?side3 ?side4 A74.out (by first | exact hG | exact GOK.below hG hC_)).mono ?_); (case side1 => repeat (first | exact (Kd.N_reads' HO_235000.out).2.2 | (with_reducible refine Kd.C_alloc ?_ _) | (with_reducible refine Kd.C_drewN ?_ _) | (with_reducible refine Kd.C_drew ?_))); (case side2 => exact (Kd.N_reads' HO_235000.out).2.1); (case side3 => exact cC_ (Kd.R_reads' HO_235002.out).2.2); (case side4 => exact (Kd.R_reads' HO_235002.out).2.1); rintro e w135 ⟨v249, rfl, ho0, hb⟩; refine ⟨_, rfl, ?_⟩; replace HO_235000 := a_ (Kd.N_elder' (hN_ HO_235000.out) (Kd.R_base ho0) hb); replace HO_235002 := a_ (Kd.R_below (hR_ HO_235002.out) hb); have HO250 := a_ (Kd.R_lower ho0 (below_size hC_)); replace BK234 := a_ (bB_ BK234.out hb); replace HB := a_ (below_step hC_ hb); (try clear hb); (try clear hb2); (try clear hk); (try clear hi); (try clear ho0); obtain ⟨hcz136_0, hcz136_1, hcz136_2, hfz136_0, hfz136_1, hfz136_2⟩ := bx3_ BK234.out) | ((with_reducible refine gate_callee (f := 10) rfl ?_); refine goesL_ (some 102) rfl rfl Tryd.func10 (by kernel_rfl) rfl #[.agg #[.slice Ao133 x235000_5.length co133, .int .i64 x235001_5, .slice Ao134 x235002_5.length co134]] rfl hL_ ?_; (with_reducible refine (next_Step.calls kj5 _ _ x235000_5 x235001_5 _ _ x235002_5 t252 t253 t254 _ ?side1 ?side2 ?side3 ?side4 A75.out (by first | exact hG | exact GOK.below hG hC_)).mono ?_); (case side1 => repeat (first | exact (Kd.N_reads' HO_235000.out).2.2 | (with_reducible refine Kd.C_alloc ?_ _) | (with_reducible refine Kd.C_drewN ?_ _) | (with_reducible refine Kd.C_drew ?_))); (case side2 => exact (Kd.N_reads' HO_235000.out).2.1); (case side3 => exact cC_ (Kd.R_reads' HO_235002.out).2.2); (case side4 => exact (Kd.R_reads' HO_235002.out).2.1); rintro e w137 ⟨rfl, hb⟩; refine ⟨_, rfl, ?_⟩; replace HO_235000 := a_ (Kd.N_below (hN_ HO_235000.out) hb); replace HO_235002 := a_ (Kd.R_below (hR_ HO_235002.out) hb); replace HO250 := a_ (Kd.R_below (hR_ HO250.out) hb); replace BK234 := a_ (bB_ BK234.out hb); replace HB := a_ (below_step hC_ hb); (try clear hb); (try clear hb2); (try clear hk); (try clear hi)) | ((with_reducible refine gate_dst (N := 11) rfl ?_); (try (refine gate_guard (by rfl) ?_; dsimp only)); refine boxE_ 11 #[.int .i64 0, .int .i64 0] 39 ?_; intro gb255 hg w138 hbox hb; replace HO_235000 := a_ (Kd.N_below (Kd.N_elderB (hN_ HO_235000.out) gb255 (Nat.le_of_eq hg.symm)) hb); replace HO_235002 := a_ (Kd.R_below (hR_ HO_235002.out) hb); replace HO250 := a_ (Kd.R_below (hR_ HO250.out) hb); have BK255 := a_ (hbox); have GW255 := a_ ((gE_ hg : w.heap.size ≤ gb255)); have GE255 := a_ ((gE_ hg : w.heap.size ≤ gb255)); replace HB := a_ (below_step hC_ hb); have NB234_255 := a_ ((bL_ BK234.out hg : gb234 ≠ gb255)); have NB255_234 := a_ ((bG_ BK234.out hg : gb255 ≠ gb234)); replace BK234 := a_ (bB_ BK234.out hb); clear hb hbox hg; have hnb139 := NB255_234.out; have hnc139 := NB234_255.out; obtain ⟨hcz140_0, hcz140_1, hfz140_0, hfz140_1⟩ := bx2_ BK255.out) | ((with_reducible refine gate_store (t := 39) (p := 11) rfl ?_); refine store_event (t := 39) (p := 11) (v := ?vo_w141) (w1 := ((w138.setCell ⟨gb255, 0, none⟩ (.int .i64 t252)).setCell ⟨gb255, 1, none⟩ (.int .i64 t253))) ?hg ?ho ?hn ?hr ?_; (case ho => rfl); (case hg => rfl); (case hn => rfl); (case hr => first | (go_simp; done) | (go_simp; rfl)); intro w141 hw; replace HO_235000 : Aside0 (Kd.N k33 33 w141 w.heap.size (fun k_ => some k_ ≠ (.slice Ao134 x235002_5.length co134 : Value).ownBlock ∧ some k_ ≠ (v249 : Value).ownBlock ∧ k_ ≠ gb234 ∧ k_ ≠ gb255) (.slice Ao133 x235000_5.length co133) x235000_5) := ⟨(by rw [hw]; exact (by (with_reducible repeat (first | apply Kd.N_alloc | apply Kd.N_drewN | apply Kd.N_drew)); exact Kd.N_mono (nF_ (nF_ (Kd.N_mono HO_235000.out (fun k_ hk => (⟨hk, hk.2⟩ : _ ∧ k_ ≠ gb255))))) (fun _ hk => ⟨hk.1.1.1.1, ⟨hk.1.1.2, ⟨hk.1.1.1.2, hk.1.2⟩⟩⟩)))⟩; replace HO_235002 : Aside0 (Kd.R k26 26 w141 w.heap.size (fun _ => True) (.slice Ao134 x235002_5.length co134) x235002_5) := ⟨(by rw [hw]; exact (by (with_reducible repeat (first | apply Kd.R_alloc | apply Kd.R_drewN | apply Kd.R_drew)); exact Kd.R_mono (rF_ (rF_ (Kd.R_types HO_235002.out BK255.out (by decide)))) (fun _ hk => trivial)))⟩; replace HO250 : Aside0 (Kd.R (Kd.int .i64) 3 w141 w.heap.size (fun _ => True) v249 t248) := ⟨(by rw [hw]; exact (by (with_reducible repeat (first | apply Kd.R_alloc | apply Kd.R_drewN | apply Kd.R_drew)); exact Kd.R_mono (rF_ (rF_ (Kd.R_types HO250.out BK255.out (by decide)))) (fun _ hk => trivial)))⟩; replace BK234 : Aside0 (w141.heap[gb234]? = some (.cells #[.slice Ao133 x235000_5.length co133, .int .i64 x235001_5, .slice Ao134 x235002_5.length co134] 29 (0, 0))) := ⟨(by rw [hw]; exact (bF_ (bF_ (hK_ BK234.out) NB234_255.out) NB234_255.out))⟩; replace BK255 : Aside0 (w141.heap[gb255]? = some (.cells #[.int .i64 t252, .int .i64 t253] 39 (0, 0))) := ⟨(by rw [hw]; exact (bP_ (bP_ (hK_ BK255.out))))⟩; replace HB : Aside0 (Below w.heap.size w w141) := ⟨(by rw [hw]; exact hC_)⟩; clear hw; obtain ⟨Ao142, co142, eo142⟩ := Kd.R_slice HO250.out; subst eo142) | (go_at_call 11; (with_reducible refine (sleuthlaw0_Num.calls t251 t258 _ A128.out).mono ?_); rintro e w' ⟨rfl, ⟨nd, rfl⟩⟩; obtain ⟨hcz143_0, hcz143_1, hfz143_0, hfz143_1⟩ := bx2_ BK255.out) | (go_at_call 11; (with_reducible refine (sleuthlaw0_Num.calls t254 t259 _ A131.out).mono ?_); rintro e w' ⟨rfl, ⟨nd, rfl⟩⟩))
   go_ret
   exact ⟨hV_, hC_⟩
end Go.Proofs.YtgokcaccamfgfaaDoor.G
