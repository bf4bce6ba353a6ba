-- Laid by the session's own driver gp.py over the kit's printer. Not trusted: Lean checks it.
import Derived.Test.YtgcdbpnflchobaaDoorBase
import Derived.Test.YtgcdbpnflchobaaDoorGK
import Derived.Test.YtgcdbpnflchobaaDoorGD
import Derived.Test.YtgcdbpnflchobaaDoorGN
import Derived.Test.YtgcdbpnflchobaaDoorG31
namespace Go.Proofs.YtgcdbpnflchobaaDoor.G
open Go.RowKit Go.Proofs.YtgcdbpnflchobaaDoorW.PrintWords Go.Proofs.YtgcdbpnflchobaaDoorW.PrintLast Go.Proofs.YtgcdbpnflchobaaDoorW.PrintMore
attribute [local go_sem] max2_int min2_int max_two min_two max_three min_three max_four min_four   -- for this text's walks alone
set_option linter.unusedVariables false
set_option linter.unusedSimpArgs false

/-! ### sleuthlaw13_TreeChain: function 7 -/
mutual
def sleuthlaw13_TreeChain.l0 : Nat → Int → Int → List (S44) → List (S44) → Int → Option (Bool)
  | 0, _, _, _, _, _ => none
  | k + 1, x1, x5, x6, x7, x8 => if x8 < x5 then (if 0 ≤ x8 then (if x8 < (x6.length : Int) then (if x8 < (x7.length : Int) then (sleuthlaw13_TreeChain.l0 k x1 x5 (x6.set (x8 : Int).toNat (⟨0, wrap64 (x8 - 1), ([] : List ByteArray), (⟨#[49]⟩ : ByteArray)⟩ : S44)) (x7.set (x8 : Int).toNat (⟨0, 0, ([] : List ByteArray), (⟨#[49]⟩ : ByteArray)⟩ : S44)) (wrap64 (x8 + 1))) else (none)) else (none)) else (none)) else (if 0 < (x7.length : Int) then ((some (x7.set (0 : Int).toNat (⟨(rd_T44 x7 0).f0, (-1), (rd_T44 x7 0).f2, (rd_T44 x7 0).f3⟩ : S44) : List (S44))).bind fun y443 => (if (IntKind.u64.wrap (x5)) = 0 then (none) else ((tree_Size.f k x6 (wrap64 (Int.tmod (IntKind.u64.wrap (x1)) (IntKind.u64.wrap (x5))))).bind fun bt444 => ((tree_Size.f k y443 (wrap64 (Int.tmod (IntKind.u64.wrap (x1)) (IntKind.u64.wrap (x5))))).bind fun bt446 => ((tree_Kids.f k y443 (wrap64 (Int.tmod (IntKind.u64.wrap (x1)) (IntKind.u64.wrap (x5))))).bind fun bt448 => (if (wrap64 (Int.tmod (IntKind.u64.wrap (x1)) (IntKind.u64.wrap (x5)))) = 0 then (sleuthlaw13_TreeChain.j1 k x5 (wrap64 (Int.tmod (IntKind.u64.wrap (x1)) (IntKind.u64.wrap (x5)))) bt444.1 bt444.2 bt446.1 bt446.2 bt448.1 bt448.2 x5) else (sleuthlaw13_TreeChain.j1 k x5 (wrap64 (Int.tmod (IntKind.u64.wrap (x1)) (IntKind.u64.wrap (x5)))) bt444.1 bt444.2 bt446.1 bt446.2 bt448.1 bt448.2 1))))))) else (none))
def sleuthlaw13_TreeChain.j1 : Nat → Int → Int → Int → Int → Int → Int → List Int → Int → Int → Option (Bool)
  | 0, _, _, _, _, _, _, _, _, _ => none
  | k + 1, x5, x9, x10, x11, x12, x13, x14, x15, x16 => (sleuthlaw0_Num.f x11).bind fun t452 => (if t452 = 0 then (if x10 = (wrap64 (x5 - x9)) then ((sleuthlaw0_Num.f x13).bind fun t453 => (if t453 = 0 then (if x12 = x16 then ((sleuthlaw0_Num.f x15).bind fun t454 => (if t454 = 0 then (if (x14.length : Int) = (wrap64 (x16 - 1)) then ((sleuthlaw13_some.f).bind fun t455 => (some ((t455.length : Int) == 5))) else (some false)) else (some false))) else (some false)) else (some false))) else (some false)) else (some false))
end
def sleuthlaw13_TreeChain.f (k : Nat) (a0 : Int) (a1 : Int) : Option (Bool) := (sleuthlaw13_awake.f k).bind fun t434 => (if t434 = true then (if 0 ≤ (wrap64 (1 + (Go.bits .and .i64 a0 31))) then (if (wrap64 (1 + (Go.bits .and .i64 a0 31)) : Int).toNat ≤ 5026338869833 then (sleuthlaw13_TreeChain.l0 k a1 (wrap64 (1 + (Go.bits .and .i64 a0 31))) (List.replicate (wrap64 (1 + (Go.bits .and .i64 a0 31)) : Int).toNat z44) (List.replicate (wrap64 (1 + (Go.bits .and .i64 a0 31)) : Int).toNat z44) 0) else (none)) else (none)) else (some false))
theorem sleuthlaw13_TreeChain.mono_l : ∀ k, (∀ y0 y1 y2 y3 y4, LeO (sleuthlaw13_TreeChain.l0 k y0 y1 y2 y3 y4) (sleuthlaw13_TreeChain.l0 (k + 1) y0 y1 y2 y3 y4)) ∧ (∀ y0 y1 y2 y3 y4 y5 y6 y7 y8, LeO (sleuthlaw13_TreeChain.j1 k y0 y1 y2 y3 y4 y5 y6 y7 y8) (sleuthlaw13_TreeChain.j1 (k + 1) y0 y1 y2 y3 y4 y5 y6 y7 y8))
  | 0 => ⟨fun _ _ _ _ _ r h => by simp [sleuthlaw13_TreeChain.l0] at h, fun _ _ _ _ _ _ _ _ _ r h => by simp [sleuthlaw13_TreeChain.j1] at h⟩
  | k + 1 => by
    obtain ⟨ih0, ih1⟩ := sleuthlaw13_TreeChain.mono_l k
    refine ⟨?_, ?_⟩
    · intro y0 y1 y2 y3 y4
      unfold sleuthlaw13_TreeChain.l0
      repeat' first
      | (with_reducible exact ih0 _ _ _ _ _)
      | (with_reducible exact ih1 _ _ _ _ _ _ _ _ _)
      | (with_reducible exact sleuthlaw13_awake.mono _)
      | (with_reducible exact tree_Kids.mono _ _ _)
      | (with_reducible exact tree_Size.mono _ _ _)
      | (with_reducible exact LeO.refl _)
      | (with_reducible exact LeO.none _)
      | (with_reducible refine LeO.ite ?_ ?_)
      | (with_reducible refine LeO.bind ?_ (fun _ => ?_))
      | exact ih0 _ _ _ _ _
      | exact ih1 _ _ _ _ _ _ _ _ _
      | exact sleuthlaw13_awake.mono _
      | exact tree_Kids.mono _ _ _
      | exact tree_Size.mono _ _ _
      | exact LeO.none _
      | refine LeO.ite ?_ ?_
      | refine LeO.bind ?_ (fun _ => ?_)
    · intro y0 y1 y2 y3 y4 y5 y6 y7 y8
      unfold sleuthlaw13_TreeChain.j1
      repeat' first
      | (with_reducible exact ih0 _ _ _ _ _)
      | (with_reducible exact ih1 _ _ _ _ _ _ _ _ _)
      | (with_reducible exact sleuthlaw13_awake.mono _)
      | (with_reducible exact tree_Kids.mono _ _ _)
      | (with_reducible exact tree_Size.mono _ _ _)
      | (with_reducible exact LeO.refl _)
      | (with_reducible exact LeO.none _)
      | (with_reducible refine LeO.ite ?_ ?_)
      | (with_reducible refine LeO.bind ?_ (fun _ => ?_))
      | exact ih0 _ _ _ _ _
      | exact ih1 _ _ _ _ _ _ _ _ _
      | exact sleuthlaw13_awake.mono _
      | exact tree_Kids.mono _ _ _
      | exact tree_Size.mono _ _ _
      | exact LeO.none _
      | refine LeO.ite ?_ ?_
      | refine LeO.bind ?_ (fun _ => ?_)
theorem sleuthlaw13_TreeChain.mono : ∀ a0 a1 k, LeO (sleuthlaw13_TreeChain.f k a0 a1) (sleuthlaw13_TreeChain.f (k + 1) a0 a1) := by
  intro a0 a1 k
  obtain ⟨ih0, ih1⟩ := sleuthlaw13_TreeChain.mono_l k
  unfold sleuthlaw13_TreeChain.f
  repeat' first
      | (with_reducible exact ih0 _ _ _ _ _)
      | (with_reducible exact ih1 _ _ _ _ _ _ _ _ _)
      | (with_reducible exact sleuthlaw13_awake.mono _)
      | (with_reducible exact tree_Kids.mono _ _ _)
      | (with_reducible exact tree_Size.mono _ _ _)
      | (with_reducible exact LeO.refl _)
      | (with_reducible exact LeO.none _)
      | (with_reducible refine LeO.ite ?_ ?_)
      | (with_reducible refine LeO.bind ?_ (fun _ => ?_))
      | exact ih0 _ _ _ _ _
      | exact ih1 _ _ _ _ _ _ _ _ _
      | exact sleuthlaw13_awake.mono _
      | exact tree_Kids.mono _ _ _
      | exact tree_Size.mono _ _ _
      | exact LeO.none _
      | refine LeO.ite ?_ ?_
      | refine LeO.bind ?_ (fun _ => ?_)
set_option maxHeartbeats 8000000 in
set_option maxRecDepth 100000 in
theorem sleuthlaw13_TreeChain.calls (k : Nat) (a0 : Int) (a1 : Int) (r : Bool) (w : World) (h : sleuthlaw13_TreeChain.f k a0 a1 = some r) (hG : GOK w) :
    Calls Tryd.prog 7 #[.int .i64 a0, .int .i64 a1] w fun e w' => e = .returned (.bool r) ∧ Below w.heap.size w w' := by
  have hu44 := Tryd.underlying44
  have HB := Aside0.mk (Below.refl w.heap.size w)
  have H : ((sleuthlaw13_awake.f k).bind fun t434 => (if t434 = true then (if 0 ≤ (wrap64 (1 + (Go.bits .and .i64 a0 31))) then (if (wrap64 (1 + (Go.bits .and .i64 a0 31)) : Int).toNat ≤ 5026338869833 then (sleuthlaw13_TreeChain.l0 k a1 (wrap64 (1 + (Go.bits .and .i64 a0 31))) (List.replicate (wrap64 (1 + (Go.bits .and .i64 a0 31)) : Int).toNat z44) (List.replicate (wrap64 (1 + (Go.bits .and .i64 a0 31)) : Int).toNat z44) 0) else (none)) else (none)) else (some false))) = some r := h
  clear h
  replace H := Option.bind_eq_some_iff.mp H
  obtain ⟨t434, A30, H⟩ := H
  replace H : (if t434 = true then (if 0 ≤ (wrap64 (1 + (Go.bits .and .i64 a0 31))) then (if (wrap64 (1 + (Go.bits .and .i64 a0 31)) : Int).toNat ≤ 5026338869833 then (sleuthlaw13_TreeChain.l0 k a1 (wrap64 (1 + (Go.bits .and .i64 a0 31))) (List.replicate (wrap64 (1 + (Go.bits .and .i64 a0 31)) : Int).toNat z44) (List.replicate (wrap64 (1 + (Go.bits .and .i64 a0 31)) : Int).toNat z44) 0) else (none)) else (none)) else (some false)) = some r := H
  have A3 := Aside0.mk A30
  clear A30
  by_cases c4 : t434 = true
  · subst c4
    have H1 : (if 0 ≤ (wrap64 (1 + (Go.bits .and .i64 a0 31))) then (if (wrap64 (1 + (Go.bits .and .i64 a0 31)) : Int).toNat ≤ 5026338869833 then (sleuthlaw13_TreeChain.l0 k a1 (wrap64 (1 + (Go.bits .and .i64 a0 31))) (List.replicate (wrap64 (1 + (Go.bits .and .i64 a0 31)) : Int).toNat z44) (List.replicate (wrap64 (1 + (Go.bits .and .i64 a0 31)) : Int).toNat z44) 0) else (none)) else (none)) = some r := by rw [if_pos rfl] at H; exact H
    clear H
    have H := H1
    clear H1
    obtain ⟨ji5, hji5⟩ : ∃ j_ : Int, (wrap64 (1 + (Go.bits .and .i64 a0 31))) = j_ := ⟨_, rfl⟩
    replace H : (if 0 ≤ (ji5) then (if (ji5 : Int).toNat ≤ 5026338869833 then (sleuthlaw13_TreeChain.l0 k a1 ji5 (List.replicate (ji5 : Int).toNat z44) (List.replicate (ji5 : Int).toNat z44) 0) else (none)) else (none)) = some r := by first | (rw [hji5] at H; exact H) | (simp only [hji5] at H ⊢; exact H)
    (try rw [hji5] at A3)
    have hji5w : (IntKind.i64.wrap (1 + (Go.bits .and .i64 a0 31))) = ji5 := (i64_w _).trans hji5
    by_cases c6 : 0 ≤ (ji5)
    · rw [if_pos c6] at H
      have c6b0 := eq_true c6
      have c6b1 : decide (0 ≤ (ji5)) = true := decide_eq_true c6
      clear c6
      by_cases c7 : (ji5 : Int).toNat ≤ 5026338869833
      · rw [if_pos c7] at H
        have c7b0 := eq_true c7
        have c7b1 : decide ((ji5 : Int).toNat ≤ 5026338869833) = true := decide_eq_true c7
        clear c7
        obtain ⟨y435, hy435⟩ : ∃ y_ : List (S44), y_ = (List.replicate (ji5 : Int).toNat z44) := ⟨_, rfl⟩
        replace H : (sleuthlaw13_TreeChain.l0 k a1 ji5 y435 (List.replicate (ji5 : Int).toNat z44) 0) = some r := by first | (rw [hy435]; with_reducible exact H) | (have H2_ := (Option.bind_some _ _).symm.trans H; rw [hy435]; with_reducible exact H2_) | (have H2_ := (Option.bind_some _ _).symm.trans H; with_reducible exact H2_) | with_reducible exact H | (rw [hy435]; exact H) | exact H
        have Ny435 := Aside0.mk hy435
        clear hy435
        obtain ⟨y438, hy438⟩ : ∃ y_ : List (S44), y_ = (List.replicate (ji5 : Int).toNat z44) := ⟨_, rfl⟩
        replace H : (sleuthlaw13_TreeChain.l0 k a1 ji5 y435 y438 0) = some r := by first | (rw [hy438]; with_reducible exact H) | (have H2_ := (Option.bind_some _ _).symm.trans H; rw [hy438]; with_reducible exact H2_) | (have H2_ := (Option.bind_some _ _).symm.trans H; with_reducible exact H2_) | with_reducible exact H | (rw [hy438]; exact H) | exact H
        have Ny438 := Aside0.mk hy438
        clear hy438
        have H' := Aside0.mk H
        clear H
        go_enter Tryd.func7, Tryd.ntmps7
        try go_wp2_with (first | ((with_reducible refine gate_callee (f := 23) rfl ?_); refine goesL_ (some 17) rfl rfl Tryd.func23 (by kernel_rfl) rfl #[] rfl hL_ ?_; (with_reducible refine (sleuthlaw13_awake.calls k  true _ A3.out hG_).mono ?_); rintro e w8 ⟨rfl, hb⟩; refine ⟨_, rfl, ?_⟩; have n0_ := Aside0.mk (below_step hB_ hb); clear HB; have HB := n0_; clear n0_; (try clear hb); (try clear hb2); (try clear hk); (try clear hi)))
        have n0_ := Aside0.mk (below_drew1 HB.out)
        clear HB
        have HB := n0_
        clear n0_
        refine start_ (n := 6) (S := fun w' => True) (ds := []) #[false, false, false, false, false, false] (by kernel_rfl) rfl rfl trivial (fun hHeld => ?_)
        generalize w8.drew = w9 at HB hHeld ⊢
        refine pure_ (i := 0) (N := some 22) (v := ?_) (a' := ?_) #[true, false, false, false, false, false] rfl rfl (by kernel_rfl) (fun _ _ _ h => h) (Or.inl ⟨by rfl, ?_⟩) ?_ ?_
        rotate_left
        · intro w'
          go_simp
          with_reducible rfl
        rotate_left
        · simp only [Act.put, List.setIfInBounds_toArray, List.set_cons_zero, List.set_cons_succ, i64_w, i32_w]
          rfl
        refine pure_ (i := 2) (N := some 24) (v := ?_) (a' := ?_) #[true, false, true, false, false, false] rfl rfl (by kernel_rfl) (fun _ _ _ h => h) (Or.inl ⟨by rfl, ?_⟩) ?_ ?_
        rotate_left
        · intro w'
          go_simp
          with_reducible rfl
        rotate_left
        · simp only [Act.put, List.setIfInBounds_toArray, List.set_cons_zero, List.set_cons_succ, i64_w, i32_w]
          rfl
        refine join_ (σ := Value × Value) 1 #[true, true, true, true, true, false] (fun s_ => [(23, s_.1), (25, s_.2), (6, s_.1)]) (fun s_ w' => (Kd.N k44 44 w' w.heap.size (fun k_ => some k_ ≠ (s_.2 : Value).ownBlock) s_.1 y435) ∧ (Kd.N k44 44 w' w.heap.size (fun k_ => some k_ ≠ (s_.1 : Value).ownBlock) s_.2 y438) ∧ (Below w.heap.size w w')) ?_ ?_
        rotate_left
        · intro hCont
          refine two_ (i := 1) (j := 3) (Ni := some 23) (Nj := some 25) #[true, true, true, false, false, false] #[true, false, true, true, false, false] rfl rfl rfl rfl (by kernel_rfl) (by decide) (by decide) (fun K hK => ?_) (fun K hK => ?_)
          · skip
            refine Kd.N_make_step k44 _ 44 (by rfl) (N' := 23) rfl 22 _ _ rfl ji5 rfl rfl Tryd.underlying22 (.agg #[(.int .i64 0), (.int .i64 0), (.slice none 0 0), (.string ⟨#[]⟩)]) 56 info44 rfl (by decide) (by omega) z44 (ok := fun k_ => w9.heap.size ≤ k_) (okp := fun _ => False) (k44_mkF _ _ z44 (Nat.le_refl _) (Kd.F_nil _ _ _)) (fun _ hk => hk.elim) (Nat.le_refl _) (of_decide_eq_true hA_) (Nat.le_trans (Nat.mul_le_mul_right _ (of_decide_eq_true hA_ : ji5.toNat ≤ 5026338869833)) (by omega)) (Below.refl _ _) (Nat.le_refl _) ?_
            intro v436 w10 ho11 hb hg_ hnew_
            clear hg_ hnew_
            (first | rw [← Ny435.out] at ho11 | (simp only [Int.reduceToNat] at ho11; rw [← Ny435.out] at ho11))
            have n0_ := Aside0.mk (Kd.N_lower (Kd.N_mono (ok' := fun k_ => True) ho11 (fun k_ hk_ => trivial)) hS_)
            have n1_ := Aside0.mk (below_step hB_ hb)
            clear HB
            have HO437 := n0_
            have HB := n1_
            clear n0_ n1_
            clear hb ho11
            refine hK.out _ _ trivial (fun hHeld => ?_)
            clear hK K
            refine norm_ (a' := ?_) ?_ ?_
            rotate_left
            · show Act.put _ (some 23) _ = _
              simp only [Act.put, List.setIfInBounds_toArray, List.set_cons_zero, List.set_cons_succ, i64_w, i32_w]
              rfl
            refine pure_ (i := 4) (N := some 6) (v := ?_) (a' := ?_) #[true, true, true, false, true, false] rfl rfl (by kernel_rfl) (fun _ _ _ h => h) (Or.inl ⟨by rfl, ?_⟩) ?_ ?_
            rotate_left
            · intro w'
              go_simp
              with_reducible rfl
            rotate_left
            · simp only [Act.put, List.setIfInBounds_toArray, List.set_cons_zero, List.set_cons_succ, i64_w, i32_w]
              rfl
            refine one_ (i := 3) (N := some 25) #[true, true, true, true, true, false] rfl rfl (by kernel_rfl) (by decide) (fun K hK => ?_)
            refine Kd.N_make_step k44 _ 44 (by rfl) (N' := 25) rfl 22 _ _ rfl ji5 rfl rfl Tryd.underlying22 (.agg #[(.int .i64 0), (.int .i64 0), (.slice none 0 0), (.string ⟨#[]⟩)]) 56 info44 rfl (by decide) (by omega) z44 (ok := fun k_ => w10.heap.size ≤ k_) (okp := fun _ => False) (k44_mkF _ _ z44 (Nat.le_refl _) (Kd.F_nil _ _ _)) (fun _ hk => hk.elim) (Nat.le_refl _) (of_decide_eq_true hA_) (Nat.le_trans (Nat.mul_le_mul_right _ (of_decide_eq_true hA_ : ji5.toNat ≤ 5026338869833)) (by omega)) (Below.refl _ _) (Nat.le_refl _) ?_
            intro v439 w12 ho13 hb hg_ hnew_
            clear hg_ hnew_
            (first | rw [← Ny438.out] at ho13 | (simp only [Int.reduceToNat] at ho13; rw [← Ny438.out] at ho13))
            have n0_ := Aside0.mk (Kd.N_elder' (hN_ HO437.out) (Kd.N_base ho13) hb)
            have n1_ := Aside0.mk (Kd.N_lower (Kd.N_mono (ok' := fun k_ => some k_ ≠ (v436 : Value).ownBlock) ho13 (fun k_ hk_ => (Kd.fresh' (Kd.N_lt (hN_ HO437.out)) k_ hk_))) hS_)
            have n2_ := Aside0.mk (below_step hB_ hb)
            clear HO437
            clear HB
            have HO437 := n0_
            have HO440 := n1_
            have HB := n2_
            clear n0_ n1_ n2_
            clear hb ho13
            refine hK.out _ _ trivial (fun hHeld => ?_)
            clear hK K
            refine norm_ (a' := ?_) ?_ ?_
            rotate_left
            · show Act.put _ (some 25) _ = _
              simp only [Act.put, List.setIfInBounds_toArray, List.set_cons_zero, List.set_cons_succ, i64_w, i32_w]
              rfl
            exact norm_ (by simp only [putAll, Act.put, List.setIfInBounds_toArray, List.set_cons_zero, List.set_cons_succ]) (hCont (v436, v439) _ ⟨(by (with_reducible repeat (first | apply Kd.N_alloc | apply Kd.N_drewN | apply Kd.N_drew)); exact Kd.N_mono HO437.out (fun _ hk => hk.2)), (hN_ HO440.out), hB_⟩)
          · skip
            refine Kd.N_make_step k44 _ 44 (by rfl) (N' := 25) rfl 22 _ _ rfl ji5 rfl rfl Tryd.underlying22 (.agg #[(.int .i64 0), (.int .i64 0), (.slice none 0 0), (.string ⟨#[]⟩)]) 56 info44 rfl (by decide) (by omega) z44 (ok := fun k_ => w9.heap.size ≤ k_) (okp := fun _ => False) (k44_mkF _ _ z44 (Nat.le_refl _) (Kd.F_nil _ _ _)) (fun _ hk => hk.elim) (Nat.le_refl _) (of_decide_eq_true hA_) (Nat.le_trans (Nat.mul_le_mul_right _ (of_decide_eq_true hA_ : ji5.toNat ≤ 5026338869833)) (by omega)) (Below.refl _ _) (Nat.le_refl _) ?_
            intro v439 w10 ho11 hb hg_ hnew_
            clear hg_ hnew_
            (first | rw [← Ny438.out] at ho11 | (simp only [Int.reduceToNat] at ho11; rw [← Ny438.out] at ho11))
            have n0_ := Aside0.mk (Kd.N_lower (Kd.N_mono (ok' := fun k_ => True) ho11 (fun k_ hk_ => trivial)) hS_)
            have n1_ := Aside0.mk (below_step hB_ hb)
            clear HB
            have HO440 := n0_
            have HB := n1_
            clear n0_ n1_
            clear hb ho11
            refine hK.out _ _ trivial (fun hHeld => ?_)
            clear hK K
            refine norm_ (a' := ?_) ?_ ?_
            rotate_left
            · show Act.put _ (some 25) _ = _
              simp only [Act.put, List.setIfInBounds_toArray, List.set_cons_zero, List.set_cons_succ, i64_w, i32_w]
              rfl
            refine one_ (i := 1) (N := some 23) #[true, true, true, true, false, false] rfl rfl (by kernel_rfl) (by decide) (fun K hK => ?_)
            refine Kd.N_make_step k44 _ 44 (by rfl) (N' := 23) rfl 22 _ _ rfl ji5 rfl rfl Tryd.underlying22 (.agg #[(.int .i64 0), (.int .i64 0), (.slice none 0 0), (.string ⟨#[]⟩)]) 56 info44 rfl (by decide) (by omega) z44 (ok := fun k_ => w10.heap.size ≤ k_) (okp := fun _ => False) (k44_mkF _ _ z44 (Nat.le_refl _) (Kd.F_nil _ _ _)) (fun _ hk => hk.elim) (Nat.le_refl _) (of_decide_eq_true hA_) (Nat.le_trans (Nat.mul_le_mul_right _ (of_decide_eq_true hA_ : ji5.toNat ≤ 5026338869833)) (by omega)) (Below.refl _ _) (Nat.le_refl _) ?_
            intro v436 w12 ho13 hb hg_ hnew_
            clear hg_ hnew_
            (first | rw [← Ny435.out] at ho13 | (simp only [Int.reduceToNat] at ho13; rw [← Ny435.out] at ho13))
            have n0_ := Aside0.mk (Kd.N_elder' (hN_ HO440.out) (Kd.N_base ho13) hb)
            have n1_ := Aside0.mk (Kd.N_lower (Kd.N_mono (ok' := fun k_ => some k_ ≠ (v439 : Value).ownBlock) ho13 (fun k_ hk_ => (Kd.fresh' (Kd.N_lt (hN_ HO440.out)) k_ hk_))) hS_)
            have n2_ := Aside0.mk (below_step hB_ hb)
            clear HO440
            clear HB
            have HO440 := n0_
            have HO437 := n1_
            have HB := n2_
            clear n0_ n1_ n2_
            clear hb ho13
            refine hK.out _ _ trivial (fun hHeld => ?_)
            clear hK K
            refine norm_ (a' := ?_) ?_ ?_
            rotate_left
            · show Act.put _ (some 23) _ = _
              simp only [Act.put, List.setIfInBounds_toArray, List.set_cons_zero, List.set_cons_succ, i64_w, i32_w]
              rfl
            refine pure_ (i := 4) (N := some 6) (v := ?_) (a' := ?_) #[true, true, true, true, true, false] rfl rfl (by kernel_rfl) (fun _ _ _ h => h) (Or.inl ⟨by rfl, ?_⟩) ?_ ?_
            rotate_left
            · intro w'
              go_simp
              with_reducible rfl
            rotate_left
            · simp only [Act.put, List.setIfInBounds_toArray, List.set_cons_zero, List.set_cons_succ, i64_w, i32_w]
              rfl
            exact norm_ (by simp only [putAll, Act.put, List.setIfInBounds_toArray, List.set_cons_zero, List.set_cons_succ]) (hCont (v436, v439) _ ⟨(hN_ HO437.out), (by (with_reducible repeat (first | apply Kd.N_alloc | apply Kd.N_drewN | apply Kd.N_drew)); exact Kd.N_mono HO440.out (fun _ hk => hk.2)), hB_⟩)
        rintro ⟨v436, v439⟩ w14 ⟨h0_, h1_, h2_⟩
        have n0_ : Aside0 (Kd.N k44 44 w14 w.heap.size (fun k_ => some k_ ≠ (v439 : Value).ownBlock) v436 y435) := ⟨h0_⟩
        have n1_ : Aside0 (Kd.N k44 44 w14 w.heap.size (fun k_ => some k_ ≠ (v436 : Value).ownBlock) v439 y438) := ⟨h1_⟩
        have n2_ : Aside0 (Below w.heap.size w w14) := ⟨h2_⟩
        clear HB
        clear h0_ h1_ h2_
        have HO437 := n0_
        have HO440 := n1_
        have HB := n2_
        clear n0_ n1_ n2_
        have hHeld := trivial
        refine norm_ (a' := ?_) ?_ ?_
        rotate_left
        · simp only [putAll, Act.put, List.setIfInBounds_toArray, List.set_cons_zero, List.set_cons_succ]
          rfl
        refine pure_ (i := 5) (N := some 7) (v := ?_) (a' := ?_) #[true, true, true, true, true, true] rfl rfl (by kernel_rfl) (fun _ _ _ h => h) (Or.inl ⟨by rfl, ?_⟩) ?_ ?_
        rotate_left
        · intro w'
          go_simp
          with_reducible rfl
        rotate_left
        · simp only [Act.put, List.setIfInBounds_toArray, List.set_cons_zero, List.set_cons_succ, i64_w, i32_w]
          rfl
        refine done_ (by kernel_rfl) ?_
        try go_wp2
        go_loopg [8] k (fun kq v8 w' => ∃ (x6_1 : List (S44)) (x7_1 : List (S44)) (x8_1 : Int), v8 = .int .i64 x8_1 ∧ Aside0 (sleuthlaw13_TreeChain.l0 kq a1 ji5 x6_1 x7_1 x8_1 = some r) ∧ Aside0 (kq ≤ k) ∧ Aside0 (Kd.N k44 44 w' w.heap.size (fun k_ => some k_ ≠ (v439 : Value).ownBlock) v436 x6_1) ∧ Aside0 (Kd.N k44 44 w' w.heap.size (fun k_ => some k_ ≠ (v436 : Value).ownBlock) v439 x7_1) ∧ Aside0 (Below w.heap.size w w'))
        case atStart => exact ⟨(y435), (y438), (0), (by first | rfl | (simp; done) | (simp [*]; done)), H', ⟨Nat.le_refl _⟩, ⟨by (with_reducible repeat (first | apply Kd.N_alloc | apply Kd.N_drewN | apply Kd.N_drew)); exact HO437.out⟩, ⟨by (with_reducible repeat (first | apply Kd.N_alloc | apply Kd.N_drewN | apply Kd.N_drew)); exact HO440.out⟩, ⟨by repeat (first | (with_reducible first | exact HB.out | apply below_alloc | apply pw_below_drewN | apply below_drew1) | exact HB.out)⟩⟩
        case round =>
          clear H'
          try clear c2
          try clear p2
          try clear c4
          try clear c6
          try clear c6b0
          try clear c6b1
          try clear p6
          try clear c7
          try clear c7b0
          try clear c7b1
          try clear hji5
          try clear hji5w
          obtain ⟨x6_1, x7_1, x8_1, rfl, HA, HK1, HO_6, HO_7, HB⟩ := hrel
          cases gk with
          | zero => exact absurd HA.out (by simp [sleuthlaw13_TreeChain.l0])
          | succ k1 =>
            have H := HA.out
            clear HA
            simp only [sleuthlaw13_TreeChain.l0] at H
            by_cases c15 : x8_1 < ji5
            · rw [if_pos c15] at H
              have c15b0 : decide (x8_1 < ji5) = true := decide_eq_true c15
              clear c15
              by_cases c16 : 0 ≤ x8_1
              · rw [if_pos c16] at H
                have c16b0 : decide (0 ≤ x8_1) = true := decide_eq_true c16
                clear c16
                by_cases c17 : x8_1 < (x6_1.length : Int)
                · rw [if_pos c17] at H
                  have c17b0 : decide (x8_1 < (x6_1.length : Int)) = true := decide_eq_true c17
                  clear c17
                  obtain ⟨y441, hy441⟩ : ∃ y_ : List (S44), y_ = (x6_1.set (x8_1 : Int).toNat (⟨0, wrap64 (x8_1 - 1), ([] : List ByteArray), (⟨#[49]⟩ : ByteArray)⟩ : S44)) := ⟨_, rfl⟩
                  replace H : (if x8_1 < (x7_1.length : Int) then (sleuthlaw13_TreeChain.l0 k1 a1 ji5 y441 (x7_1.set (x8_1 : Int).toNat (⟨0, 0, ([] : List ByteArray), (⟨#[49]⟩ : ByteArray)⟩ : S44)) (wrap64 (x8_1 + 1))) else (none)) = some r := by first | (rw [hy441]; with_reducible exact H) | (have H2_ := (Option.bind_some _ _).symm.trans H; rw [hy441]; with_reducible exact H2_) | (have H2_ := (Option.bind_some _ _).symm.trans H; with_reducible exact H2_) | with_reducible exact H | (rw [hy441]; exact H) | exact H
                  have Ny441 := Aside0.mk hy441
                  clear hy441
                  by_cases c19 : x8_1 < (x7_1.length : Int)
                  · rw [if_pos c19] at H
                    have c19b0 : decide (x8_1 < (x7_1.length : Int)) = true := decide_eq_true c19
                    clear c19
                    obtain ⟨y442, hy442⟩ : ∃ y_ : List (S44), y_ = (x7_1.set (x8_1 : Int).toNat (⟨0, 0, ([] : List ByteArray), (⟨#[49]⟩ : ByteArray)⟩ : S44)) := ⟨_, rfl⟩
                    replace H : (sleuthlaw13_TreeChain.l0 k1 a1 ji5 y441 y442 (wrap64 (x8_1 + 1))) = some r := by first | (rw [hy442]; with_reducible exact H) | (have H2_ := (Option.bind_some _ _).symm.trans H; rw [hy442]; with_reducible exact H2_) | (have H2_ := (Option.bind_some _ _).symm.trans H; with_reducible exact H2_) | with_reducible exact H | (rw [hy442]; exact H) | exact H
                    have Ny442 := Aside0.mk hy442
                    clear hy442
                    have H' := Aside0.mk H
                    clear H
                    have p18 : 0 ≤ (x8_1 : Int) := of_decide_eq_true hA_
                    have q18 : (x8_1 : Int) < ((x6_1.length : Int) : Int) := of_decide_eq_true hA_
                    obtain ⟨go18, co18, eo18, gb18, gl18, cl18, HG18⟩ := Kd.N_form HO_6.out (by omega)
                    (first | cases eo18 | (injection eo18 with ea_ en_ ec_; (first | subst ea_ | (injection ea_ with ea_; subst ea_)); subst ec_; clear en_))
                    have GB18 := Aside0.mk gb18
                    have GG18 := Aside0.mk HG18
                    clear gb18 gl18 HG18
                    obtain ⟨ce18, hcl18, hM18, hcc18, hfr18⟩ := Kd.N_elem HO_6.out z44 (x8_1 : Int) p18 q18
                    obtain ⟨ua18_2, uc18_2, rfl, ul18_2, ge18_2⟩ := k44_openF hM18
                    have hx18_0 : wr.cell? ⟨go18, (x8_1 : Int).toNat * 4, none⟩ = some (.int .i64 ((rd_T44 x6_1 x8_1).f0)) := hcc18 0 _ rfl
                    have hx18_1 : wr.cell? ⟨go18, (x8_1 : Int).toNat * 4 + 1, none⟩ = some (.int .i64 ((rd_T44 x6_1 x8_1).f1)) := hcc18 1 _ rfl
                    have hx18_2 : wr.cell? ⟨go18, (x8_1 : Int).toNat * 4 + 2, none⟩ = some (.slice ua18_2 ((rd_T44 x6_1 x8_1).f2).length uc18_2) := hcc18 2 _ rfl
                    have hx18_3 : wr.cell? ⟨go18, (x8_1 : Int).toNat * 4 + 3, none⟩ = some (.string ((rd_T44 x6_1 x8_1).f3)) := hcc18 3 _ rfl
                    have hf18_0 : wr.frozen? ⟨go18, (x8_1 : Int).toNat * 4, none⟩ = false := hfr18 0
                    have hf18_1 : wr.frozen? ⟨go18, (x8_1 : Int).toNat * 4 + 1, none⟩ = false := hfr18 1
                    have hf18_2 : wr.frozen? ⟨go18, (x8_1 : Int).toNat * 4 + 2, none⟩ = false := hfr18 2
                    have hf18_3 : wr.frozen? ⟨go18, (x8_1 : Int).toNat * 4 + 3, none⟩ = false := hfr18 3
                    clear hcl18 hcc18 hfr18 hM18
                    replace p18 := eq_true p18
                    replace q18 := eq_true q18
                    have HX21 := Aside0.mk (show Kd.N k44 44 wr w.heap.size (fun k_ => some k_ ≠ (v439 : Value).ownBlock) (.slice (some ⟨go18, 0, none⟩) x6_1.length co18) x6_1 from (hN_ HO_6.out))
                    obtain ⟨ce21, hcl21, hM21, hcc21, hfr21⟩ := Kd.N_elem HX21.out z44 (x8_1 : Int) (of_decide_eq_true hA_) (by have h_ : (x8_1 : Int) < ((x6_1.length : Int) : Int) := of_decide_eq_true hA_; first | exact h_ | (have e_ := (Kd.N_reads' HO_6.out).1; omega) | simpa using h_)
                    obtain ⟨ua21_2, uc21_2, rfl, ul21_2, ge21_2⟩ := k44_openF hM21
                    have HP21 := Kd.N_seg HX21.out (x8_1 : Int) (of_decide_eq_true hA_) (by have h_ : (x8_1 : Int) < ((x6_1.length : Int) : Int) := of_decide_eq_true hA_; first | exact h_ | (have e_ := (Kd.N_reads' HO_6.out).1; omega) | simpa using h_) (seg := [.int .i64 0, .int .i64 (wrap64 (x8_1 - 1)), .slice none 0 0, .string (⟨#[49]⟩ : ByteArray)]) (j := 0) hcl21 hcc21 (show 4 ≤ 4 from by decide) (x' := (⟨0, wrap64 (x8_1 - 1), ([] : List ByteArray), (⟨#[49]⟩ : ByteArray)⟩ : S44)) (k44_mkF _ _ (⟨0, wrap64 (x8_1 - 1), ([] : List ByteArray), (⟨#[49]⟩ : ByteArray)⟩ : S44) (Nat.le_refl _) (Kd.F_nil _ _ _)) (fun _ hk => hk)
                    have hx21_0 := hcc21 0 _ rfl
                    (try simp only [show (k44).sz = 4 from rfl, Nat.mul_one, Nat.add_zero] at hx21_0)
                    have hf21_0 := hfr21 0
                    (try simp only [show (k44).sz = 4 from rfl, Nat.mul_one, Nat.add_zero] at hf21_0)
                    have hx21_1 := hcc21 1 _ rfl
                    (try simp only [show (k44).sz = 4 from rfl, Nat.mul_one, Nat.add_zero] at hx21_1)
                    have hf21_1 := hfr21 1
                    (try simp only [show (k44).sz = 4 from rfl, Nat.mul_one, Nat.add_zero] at hf21_1)
                    have hx21_2 := hcc21 2 _ rfl
                    (try simp only [show (k44).sz = 4 from rfl, Nat.mul_one, Nat.add_zero] at hx21_2)
                    have hf21_2 := hfr21 2
                    (try simp only [show (k44).sz = 4 from rfl, Nat.mul_one, Nat.add_zero] at hf21_2)
                    have hx21_3 := hcc21 3 _ rfl
                    (try simp only [show (k44).sz = 4 from rfl, Nat.mul_one, Nat.add_zero] at hx21_3)
                    have hf21_3 := hfr21 3
                    (try simp only [show (k44).sz = 4 from rfl, Nat.mul_one, Nat.add_zero] at hf21_3)
                    clear hcl21 hcc21 hfr21 hM21
                    go_wp2_with (first | ((with_reducible refine gate_store (t := 44) (p := 36) rfl ?_); refine store_event (t := 44) (p := 36) (v := ?vo_w22) (w1 := ((((wr.setCell ⟨go18, (x8_1 : Int).toNat * 4, none⟩ (.int .i64 0)).setCell ⟨go18, (x8_1 : Int).toNat * 4 + 1, none⟩ (.int .i64 (wrap64 (x8_1 - 1)))).setCell ⟨go18, (x8_1 : Int).toNat * 4 + 2, none⟩ (.slice none 0 0)).setCell ⟨go18, (x8_1 : Int).toNat * 4 + 3, none⟩ (.string (⟨#[49]⟩ : ByteArray)))) ?hg ?ho ?hn ?hr ?_; (case ho => rfl); (case hg => rfl); (case hn => rfl); (case hr => first | (go_simp; done) | (go_simp; rfl)); intro w22 hw; have hg : wr.grownBy w22 (some go18) := (by rw [hw]; exact HP21.2); have hp_ : Kd.N k44 44 w22 w.heap.size (fun k_ => some k_ ≠ (v439 : Value).ownBlock) (.slice (some ⟨go18, 0, none⟩) x6_1.length co18) y441 := (by rw [hw, Ny441.out]; exact HP21.1); clear HP21; have n0_ := Aside0.mk (hp_); have n1_ := Aside0.mk (Kd.N_afterv (v := (.slice (some ⟨go18, 0, none⟩) x6_1.length co18)) (v1 := (.slice (some ⟨go18, 0, none⟩) x6_1.length co18)) (ok := (fun _ => True)) (by (with_reducible repeat (first | apply Kd.N_alloc | apply Kd.N_drewN | apply Kd.N_drew)); exact Kd.N_mono HO_7.out (fun _ hk => ⟨trivial, hk⟩)) hg (.inl rfl)); have n2_ := Aside0.mk ((by rw [hw]; exact below_set (below_set (below_set (below_set (HB.out) GB18.out) GB18.out) GB18.out) GB18.out : Below w.heap.size w w22)); clear HO_6; clear HO_7; clear HB; have HO_6 := n0_; have HO_7 := n1_; have HB := n2_; clear n0_ n1_ n2_; clear hg hw hp_; have p20 : 0 ≤ (x8_1 : Int) := of_decide_eq_true hA_; have q20 : (x8_1 : Int) < ((x7_1.length : Int) : Int) := of_decide_eq_true hA_; obtain ⟨go20, co20, eo20, gb20, gl20, cl20, HG20⟩ := Kd.N_form HO_7.out (by omega); (first | cases eo20 | (injection eo20 with ea_ en_ ec_; (first | subst ea_ | (injection ea_ with ea_; subst ea_)); subst ec_; clear en_)); have GB20 := Aside0.mk gb20; have GG20 := Aside0.mk HG20; clear gb20 gl20 HG20; obtain ⟨ce20, hcl20, hM20, hcc20, hfr20⟩ := Kd.N_elem HO_7.out z44 (x8_1 : Int) p20 q20; obtain ⟨ua20_2, uc20_2, rfl, ul20_2, ge20_2⟩ := k44_openF hM20; have hx20_0 : w22.cell? ⟨go20, (x8_1 : Int).toNat * 4, none⟩ = some (.int .i64 ((rd_T44 x7_1 x8_1).f0)) := hcc20 0 _ rfl; have hx20_1 : w22.cell? ⟨go20, (x8_1 : Int).toNat * 4 + 1, none⟩ = some (.int .i64 ((rd_T44 x7_1 x8_1).f1)) := hcc20 1 _ rfl; have hx20_2 : w22.cell? ⟨go20, (x8_1 : Int).toNat * 4 + 2, none⟩ = some (.slice ua20_2 ((rd_T44 x7_1 x8_1).f2).length uc20_2) := hcc20 2 _ rfl; have hx20_3 : w22.cell? ⟨go20, (x8_1 : Int).toNat * 4 + 3, none⟩ = some (.string ((rd_T44 x7_1 x8_1).f3)) := hcc20 3 _ rfl; have hf20_0 : w22.frozen? ⟨go20, (x8_1 : Int).toNat * 4, none⟩ = false := hfr20 0; have hf20_1 : w22.frozen? ⟨go20, (x8_1 : Int).toNat * 4 + 1, none⟩ = false := hfr20 1; have hf20_2 : w22.frozen? ⟨go20, (x8_1 : Int).toNat * 4 + 2, none⟩ = false := hfr20 2; have hf20_3 : w22.frozen? ⟨go20, (x8_1 : Int).toNat * 4 + 3, none⟩ = false := hfr20 3; clear hcl20 hcc20 hfr20 hM20; replace p20 := eq_true p20; replace q20 := eq_true q20; have n_ := Aside0.mk (Kd.N_mono (ok' := (fun k_ => some k_ ≠ (.slice (some ⟨go18, 0, none⟩) x6_1.length co18 : Value).ownBlock)) HO_7.out (fun k_ hk => hk.2)); clear HO_7; have HO_7 := n_; clear n_; have HX23 := Aside0.mk (show Kd.N k44 44 w22 w.heap.size (fun k_ => some k_ ≠ (.slice (some ⟨go18, 0, none⟩) x6_1.length co18 : Value).ownBlock) (.slice (some ⟨go20, 0, none⟩) x7_1.length co20) x7_1 from (hN_ HO_7.out)); obtain ⟨ce23, hcl23, hM23, hcc23, hfr23⟩ := Kd.N_elem HX23.out z44 (x8_1 : Int) (of_decide_eq_true hA_) (by have h_ : (x8_1 : Int) < ((x7_1.length : Int) : Int) := of_decide_eq_true hA_; first | exact h_ | (have e_ := (Kd.N_reads' HO_7.out).1; omega) | simpa using h_); obtain ⟨ua23_2, uc23_2, rfl, ul23_2, ge23_2⟩ := k44_openF hM23; have HP23 := Kd.N_seg HX23.out (x8_1 : Int) (of_decide_eq_true hA_) (by have h_ : (x8_1 : Int) < ((x7_1.length : Int) : Int) := of_decide_eq_true hA_; first | exact h_ | (have e_ := (Kd.N_reads' HO_7.out).1; omega) | simpa using h_) (seg := [.int .i64 0, .int .i64 0, .slice none 0 0, .string (⟨#[49]⟩ : ByteArray)]) (j := 0) hcl23 hcc23 (show 4 ≤ 4 from by decide) (x' := (⟨0, 0, ([] : List ByteArray), (⟨#[49]⟩ : ByteArray)⟩ : S44)) (k44_mkF _ _ (⟨0, 0, ([] : List ByteArray), (⟨#[49]⟩ : ByteArray)⟩ : S44) (Nat.le_refl _) (Kd.F_nil _ _ _)) (fun _ hk => hk); have hx23_0 := hcc23 0 _ rfl; (try simp only [show (k44).sz = 4 from rfl, Nat.mul_one, Nat.add_zero] at hx23_0); have hf23_0 := hfr23 0; (try simp only [show (k44).sz = 4 from rfl, Nat.mul_one, Nat.add_zero] at hf23_0); have hx23_1 := hcc23 1 _ rfl; (try simp only [show (k44).sz = 4 from rfl, Nat.mul_one, Nat.add_zero] at hx23_1); have hf23_1 := hfr23 1; (try simp only [show (k44).sz = 4 from rfl, Nat.mul_one, Nat.add_zero] at hf23_1); have hx23_2 := hcc23 2 _ rfl; (try simp only [show (k44).sz = 4 from rfl, Nat.mul_one, Nat.add_zero] at hx23_2); have hf23_2 := hfr23 2; (try simp only [show (k44).sz = 4 from rfl, Nat.mul_one, Nat.add_zero] at hf23_2); have hx23_3 := hcc23 3 _ rfl; (try simp only [show (k44).sz = 4 from rfl, Nat.mul_one, Nat.add_zero] at hx23_3); have hf23_3 := hfr23 3; (try simp only [show (k44).sz = 4 from rfl, Nat.mul_one, Nat.add_zero] at hf23_3); clear hcl23 hcc23 hfr23 hM23) | ((with_reducible refine gate_store (t := 44) (p := 40) rfl ?_); refine store_event (t := 44) (p := 40) (v := ?vo_w24) (w1 := ((((w22.setCell ⟨go20, (x8_1 : Int).toNat * 4, none⟩ (.int .i64 0)).setCell ⟨go20, (x8_1 : Int).toNat * 4 + 1, none⟩ (.int .i64 0)).setCell ⟨go20, (x8_1 : Int).toNat * 4 + 2, none⟩ (.slice none 0 0)).setCell ⟨go20, (x8_1 : Int).toNat * 4 + 3, none⟩ (.string (⟨#[49]⟩ : ByteArray)))) ?hg ?ho ?hn ?hr ?_; (case ho => rfl); (case hg => rfl); (case hn => rfl); (case hr => first | (go_simp; done) | (go_simp; rfl)); intro w24 hw; have hg : w22.grownBy w24 (some go20) := (by rw [hw]; exact HP23.2); have hp_ : Kd.N k44 44 w24 w.heap.size (fun k_ => some k_ ≠ (.slice (some ⟨go18, 0, none⟩) x6_1.length co18 : Value).ownBlock) (.slice (some ⟨go20, 0, none⟩) x7_1.length co20) y442 := (by rw [hw, Ny442.out]; exact HP23.1); clear HP23; have n0_ := Aside0.mk (Kd.N_afterv (v := (.slice (some ⟨go20, 0, none⟩) x7_1.length co20)) (v1 := (.slice (some ⟨go20, 0, none⟩) x7_1.length co20)) (ok := (fun _ => True)) (by (with_reducible repeat (first | apply Kd.N_alloc | apply Kd.N_drewN | apply Kd.N_drew)); exact Kd.N_mono HO_6.out (fun _ hk => ⟨trivial, hk⟩)) hg (.inl rfl)); have n1_ := Aside0.mk (hp_); have n2_ := Aside0.mk ((by rw [hw]; exact below_set (below_set (below_set (below_set (HB.out) GB20.out) GB20.out) GB20.out) GB20.out : Below w.heap.size w w24)); clear HO_6; clear HO_7; clear HB; have HO_6 := n0_; have HO_7 := n1_; have HB := n2_; clear n0_ n1_ n2_; clear hg hw hp_))
                    go_roundg k1
                    case measure => have := HK1.out; omega
                    case rel => exact ⟨(y441), (y442), (wrap64 (x8_1 + 1)), (by first | rfl | (simp; done) | (simp [*]; done)), H', ⟨by have := HK1.out; omega⟩, ⟨by (with_reducible repeat (first | apply Kd.N_alloc | apply Kd.N_drewN | apply Kd.N_drew)); exact Kd.N_mono HO_6.out (fun _ hk => hk.2)⟩, ⟨by (with_reducible repeat (first | apply Kd.N_alloc | apply Kd.N_drewN | apply Kd.N_drew)); exact HO_7.out⟩, ⟨by repeat (first | (with_reducible first | exact HB.out | apply below_alloc | apply pw_below_drewN | apply below_drew1) | exact HB.out)⟩⟩
                  · rw [if_neg c19] at H
                    exact absurd H (by simp)
                · rw [if_neg c17] at H
                  exact absurd H (by simp)
              · rw [if_neg c16] at H
                exact absurd H (by simp)
            · rw [if_neg c15] at H
              have c15b0 : decide (x8_1 < ji5) = false := decide_eq_false c15
              clear c15
              by_cases c25 : 0 < (x7_1.length : Int)
              · rw [if_pos c25] at H
                have c25b0 : decide (0 < (x7_1.length : Int)) = true := decide_eq_true c25
                have c25b1 : decide (0 < x7_1.length) = true := decide_eq_true (by omega)
                clear c25
                obtain ⟨y443, hy443⟩ : ∃ y_ : List (S44), y_ = (x7_1.set (0 : Int).toNat (⟨(rd_T44 x7_1 0).f0, (-1), (rd_T44 x7_1 0).f2, (rd_T44 x7_1 0).f3⟩ : S44)) := ⟨_, rfl⟩
                replace H : (if (IntKind.u64.wrap (ji5)) = 0 then (none) else ((tree_Size.f k1 x6_1 (wrap64 (Int.tmod (IntKind.u64.wrap (a1)) (IntKind.u64.wrap (ji5))))).bind fun bt444 => ((tree_Size.f k1 y443 (wrap64 (Int.tmod (IntKind.u64.wrap (a1)) (IntKind.u64.wrap (ji5))))).bind fun bt446 => ((tree_Kids.f k1 y443 (wrap64 (Int.tmod (IntKind.u64.wrap (a1)) (IntKind.u64.wrap (ji5))))).bind fun bt448 => (if (wrap64 (Int.tmod (IntKind.u64.wrap (a1)) (IntKind.u64.wrap (ji5)))) = 0 then (sleuthlaw13_TreeChain.j1 k1 ji5 (wrap64 (Int.tmod (IntKind.u64.wrap (a1)) (IntKind.u64.wrap (ji5)))) bt444.1 bt444.2 bt446.1 bt446.2 bt448.1 bt448.2 ji5) else (sleuthlaw13_TreeChain.j1 k1 ji5 (wrap64 (Int.tmod (IntKind.u64.wrap (a1)) (IntKind.u64.wrap (ji5)))) bt444.1 bt444.2 bt446.1 bt446.2 bt448.1 bt448.2 1)))))) = some r := by first | (rw [hy443]; with_reducible exact H) | (have H2_ := (Option.bind_some _ _).symm.trans H; rw [hy443]; with_reducible exact H2_) | (have H2_ := (Option.bind_some _ _).symm.trans H; with_reducible exact H2_) | with_reducible exact H | (rw [hy443]; exact H) | exact H
                have Ny443 := Aside0.mk hy443
                clear hy443
                by_cases c27 : (IntKind.u64.wrap (ji5)) = 0
                · rw [if_pos c27] at H
                  exact absurd H (by simp)
                · rw [if_neg c27] at H
                  have c27b0 : ((IntKind.u64.wrap (ji5)) == 0) = false := beq_eq_false_iff_ne.mpr c27
                  have c27b1 : ((IntKind.u64.wrap (ji5)) != 0) = true := bne_iff_ne.mpr c27
                  replace H := Option.bind_eq_some_iff.mp H
                  obtain ⟨⟨t444, t445⟩, A280, H⟩ := H
                  replace H : ((tree_Size.f k1 y443 (wrap64 (Int.tmod (IntKind.u64.wrap (a1)) (IntKind.u64.wrap (ji5))))).bind fun bt446 => ((tree_Kids.f k1 y443 (wrap64 (Int.tmod (IntKind.u64.wrap (a1)) (IntKind.u64.wrap (ji5))))).bind fun bt448 => (if (wrap64 (Int.tmod (IntKind.u64.wrap (a1)) (IntKind.u64.wrap (ji5)))) = 0 then (sleuthlaw13_TreeChain.j1 k1 ji5 (wrap64 (Int.tmod (IntKind.u64.wrap (a1)) (IntKind.u64.wrap (ji5)))) t444 t445 bt446.1 bt446.2 bt448.1 bt448.2 ji5) else (sleuthlaw13_TreeChain.j1 k1 ji5 (wrap64 (Int.tmod (IntKind.u64.wrap (a1)) (IntKind.u64.wrap (ji5)))) t444 t445 bt446.1 bt446.2 bt448.1 bt448.2 1)))) = some r := H
                  have A28 := Aside0.mk A280
                  clear A280
                  replace H := Option.bind_eq_some_iff.mp H
                  obtain ⟨⟨t446, t447⟩, A290, H⟩ := H
                  replace H : ((tree_Kids.f k1 y443 (wrap64 (Int.tmod (IntKind.u64.wrap (a1)) (IntKind.u64.wrap (ji5))))).bind fun bt448 => (if (wrap64 (Int.tmod (IntKind.u64.wrap (a1)) (IntKind.u64.wrap (ji5)))) = 0 then (sleuthlaw13_TreeChain.j1 k1 ji5 (wrap64 (Int.tmod (IntKind.u64.wrap (a1)) (IntKind.u64.wrap (ji5)))) t444 t445 t446 t447 bt448.1 bt448.2 ji5) else (sleuthlaw13_TreeChain.j1 k1 ji5 (wrap64 (Int.tmod (IntKind.u64.wrap (a1)) (IntKind.u64.wrap (ji5)))) t444 t445 t446 t447 bt448.1 bt448.2 1))) = some r := H
                  have A29 := Aside0.mk A290
                  clear A290
                  replace H := Option.bind_eq_some_iff.mp H
                  obtain ⟨⟨t448, t449⟩, A300, H⟩ := H
                  replace H : (if (wrap64 (Int.tmod (IntKind.u64.wrap (a1)) (IntKind.u64.wrap (ji5)))) = 0 then (sleuthlaw13_TreeChain.j1 k1 ji5 (wrap64 (Int.tmod (IntKind.u64.wrap (a1)) (IntKind.u64.wrap (ji5)))) t444 t445 t446 t447 t448 t449 ji5) else (sleuthlaw13_TreeChain.j1 k1 ji5 (wrap64 (Int.tmod (IntKind.u64.wrap (a1)) (IntKind.u64.wrap (ji5)))) t444 t445 t446 t447 t448 t449 1)) = some r := H
                  have A30 := Aside0.mk A300
                  clear A300
                  have HC31 := Aside0.mk H
                  clear H
                  have p26 : 0 ≤ (0 : Int) := (by omega)
                  have q26 : (0 : Int) < ((x7_1.length : Int) : Int) := of_decide_eq_true hA_
                  have qi26 : (0 < x7_1.length) = True := eq_true (by omega)
                  obtain ⟨go26, co26, eo26, gb26, gl26, cl26, HG26⟩ := Kd.N_form HO_7.out (by omega)
                  (first | cases eo26 | (injection eo26 with ea_ en_ ec_; (first | subst ea_ | (injection ea_ with ea_; subst ea_)); subst ec_; clear en_))
                  have GB26 := Aside0.mk gb26
                  have GG26 := Aside0.mk HG26
                  clear gb26 gl26 HG26
                  obtain ⟨ce26, hcl26, hM26, hcc26, hfr26⟩ := Kd.N_elem HO_7.out z44 (0 : Int) p26 q26
                  obtain ⟨ua26_2, uc26_2, rfl, ul26_2, ge26_2⟩ := k44_openF hM26
                  have hx26_0 : wr.cell? ⟨go26, (0 : Int).toNat * 4, none⟩ = some (.int .i64 ((rd_T44 x7_1 0).f0)) := hcc26 0 _ rfl
                  have hx26_1 : wr.cell? ⟨go26, (0 : Int).toNat * 4 + 1, none⟩ = some (.int .i64 ((rd_T44 x7_1 0).f1)) := hcc26 1 _ rfl
                  have hx26_2 : wr.cell? ⟨go26, (0 : Int).toNat * 4 + 2, none⟩ = some (.slice ua26_2 ((rd_T44 x7_1 0).f2).length uc26_2) := hcc26 2 _ rfl
                  have hx26_3 : wr.cell? ⟨go26, (0 : Int).toNat * 4 + 3, none⟩ = some (.string ((rd_T44 x7_1 0).f3)) := hcc26 3 _ rfl
                  have hf26_0 : wr.frozen? ⟨go26, (0 : Int).toNat * 4, none⟩ = false := hfr26 0
                  have hf26_1 : wr.frozen? ⟨go26, (0 : Int).toNat * 4 + 1, none⟩ = false := hfr26 1
                  have hf26_2 : wr.frozen? ⟨go26, (0 : Int).toNat * 4 + 2, none⟩ = false := hfr26 2
                  have hf26_3 : wr.frozen? ⟨go26, (0 : Int).toNat * 4 + 3, none⟩ = false := hfr26 3
                  clear hcl26 hcc26 hfr26 hM26
                  (try rw [show ((0 : Int)).toNat = 0 from rfl] at hx26_0)
                  (try simp only [Nat.reduceMul, Nat.zero_mul, Nat.zero_add, Nat.reduceAdd] at hx26_0)
                  (try rw [show ((0 : Int)).toNat = 0 from rfl] at hf26_0)
                  (try simp only [Nat.reduceMul, Nat.zero_mul, Nat.zero_add, Nat.reduceAdd] at hf26_0)
                  (try rw [show ((0 : Int)).toNat = 0 from rfl] at hx26_1)
                  (try simp only [Nat.reduceMul, Nat.zero_mul, Nat.zero_add, Nat.reduceAdd] at hx26_1)
                  (try rw [show ((0 : Int)).toNat = 0 from rfl] at hf26_1)
                  (try simp only [Nat.reduceMul, Nat.zero_mul, Nat.zero_add, Nat.reduceAdd] at hf26_1)
                  (try rw [show ((0 : Int)).toNat = 0 from rfl] at hx26_2)
                  (try simp only [Nat.reduceMul, Nat.zero_mul, Nat.zero_add, Nat.reduceAdd] at hx26_2)
                  (try rw [show ((0 : Int)).toNat = 0 from rfl] at hf26_2)
                  (try simp only [Nat.reduceMul, Nat.zero_mul, Nat.zero_add, Nat.reduceAdd] at hf26_2)
                  (try rw [show ((0 : Int)).toNat = 0 from rfl] at hx26_3)
                  (try simp only [Nat.reduceMul, Nat.zero_mul, Nat.zero_add, Nat.reduceAdd] at hx26_3)
                  (try rw [show ((0 : Int)).toNat = 0 from rfl] at hf26_3)
                  (try simp only [Nat.reduceMul, Nat.zero_mul, Nat.zero_add, Nat.reduceAdd] at hf26_3)
                  replace p26 := eq_true p26
                  replace q26 := eq_true q26
                  have HX32 := Aside0.mk (show Kd.N k44 44 wr w.heap.size (fun k_ => some k_ ≠ (v436 : Value).ownBlock) (.slice (some ⟨go26, 0, none⟩) x7_1.length co26) x7_1 from (hN_ HO_7.out))
                  obtain ⟨ce32, hcl32, hM32, hcc32, hfr32⟩ := Kd.N_elem HX32.out z44 (0 : Int) (by omega) (by have h_ : (0 : Int) < ((x7_1.length : Int) : Int) := of_decide_eq_true hA_; first | exact h_ | (have e_ := (Kd.N_reads' HO_7.out).1; omega) | simpa using h_)
                  obtain ⟨ua32_2, uc32_2, rfl, ul32_2, ge32_2⟩ := k44_openF hM32
                  have HP32 := Kd.N_seg HX32.out (0 : Int) (by omega) (by have h_ : (0 : Int) < ((x7_1.length : Int) : Int) := of_decide_eq_true hA_; first | exact h_ | (have e_ := (Kd.N_reads' HO_7.out).1; omega) | simpa using h_) (seg := [.int .i64 (-1)]) (j := 1) hcl32 hcc32 (show 2 ≤ 4 from by decide) (x' := (⟨(rd_T44 x7_1 0).f0, (-1), (rd_T44 x7_1 0).f2, (rd_T44 x7_1 0).f3⟩ : S44)) (k44_mkF _ _ (⟨(rd_T44 x7_1 0).f0, (-1), (rd_T44 x7_1 0).f2, (rd_T44 x7_1 0).f3⟩ : S44) ul32_2 ge32_2) (fun _ hk => hk)
                  have hx32_1 := hcc32 1 _ rfl
                  (try simp only [show (k44).sz = 4 from rfl, Nat.mul_one, Nat.add_zero] at hx32_1)
                  (try rw [show ((0 : Int)).toNat = 0 from rfl] at hx32_1)
                  (try simp only [Nat.reduceMul, Nat.zero_mul, Nat.zero_add, Nat.reduceAdd] at hx32_1)
                  have hf32_1 := hfr32 1
                  (try simp only [show (k44).sz = 4 from rfl, Nat.mul_one, Nat.add_zero] at hf32_1)
                  (try rw [show ((0 : Int)).toNat = 0 from rfl] at hf32_1)
                  (try simp only [Nat.reduceMul, Nat.zero_mul, Nat.zero_add, Nat.reduceAdd] at hf32_1)
                  clear hcl32 hcc32 hfr32 hM32
                  go_upto_if 69 with (first | ((with_reducible refine gate_store (t := 3) (p := 43) rfl ?_); refine store_event (t := 3) (p := 43) (v := ?vo_w33) (w1 := (wr.setCell ⟨go26, 1, none⟩ (.int .i64 (-1)))) ?hg ?ho ?hn ?hr ?_; (case ho => rfl); (case hg => rfl); (case hn => rfl); (case hr => first | (go_simp; done) | (go_simp; rfl)); intro w33 hw; have hg : wr.grownBy w33 (some go26) := (by rw [hw]; exact HP32.2); have hp_ : Kd.N k44 44 w33 w.heap.size (fun k_ => some k_ ≠ (v436 : Value).ownBlock) (.slice (some ⟨go26, 0, none⟩) x7_1.length co26) y443 := (by rw [hw, Ny443.out]; exact HP32.1); clear HP32; have n0_ := Aside0.mk (Kd.N_afterv (v := (.slice (some ⟨go26, 0, none⟩) x7_1.length co26)) (v1 := (.slice (some ⟨go26, 0, none⟩) x7_1.length co26)) (ok := (fun _ => True)) (by (with_reducible repeat (first | apply Kd.N_alloc | apply Kd.N_drewN | apply Kd.N_drew)); exact Kd.N_mono HO_6.out (fun _ hk => ⟨trivial, hk⟩)) hg (.inl rfl)); have n1_ := Aside0.mk (hp_); have n2_ := Aside0.mk ((by rw [hw]; exact below_set (HB.out) GB26.out : Below w.heap.size w w33)); clear HO_6; clear HO_7; clear HB; have HO_6 := n0_; have HO_7 := n1_; have HB := n2_; clear n0_ n1_ n2_; clear hg hw hp_; obtain ⟨Ao34, co34, eo34⟩ := Kd.N_slice HO_6.out; subst eo34) | ((with_reducible refine gate_callee (f := 17) rfl ?_); refine goesL_ (some 53) rfl rfl Tryd.func17 (by kernel_rfl) rfl #[.slice Ao34 x6_1.length co34, .int .i64 (wrap64 (Int.tmod (IntKind.u64.wrap (a1)) (IntKind.u64.wrap (ji5))))] rfl (by (try simp only [List.map_toArray, List.map_cons, List.map_nil]); first | done | (simp only [hji5]; rfl) | rfl | (simp only [List.length_drop, List.length_take]; rfl)) ?_; (with_reducible refine (tree_Size.calls k1 _ _ x6_1 (wrap64 (Int.tmod (IntKind.u64.wrap (a1)) (IntKind.u64.wrap (ji5)))) t444 t445 _ ?side1 ?side2 A28.out hG_).mono ?_); (case side1 => repeat (first | exact (Kd.N_reads' HO_6.out).2.2 | (with_reducible refine Kd.C_alloc ?_ _) | (with_reducible refine Kd.C_drewN ?_ _) | (with_reducible refine Kd.C_drew ?_))); (case side2 => exact (Kd.N_reads' HO_6.out).2.1); rintro e w35 ⟨rfl, hb⟩; refine ⟨_, rfl, ?_⟩; have n0_ := Aside0.mk (Kd.N_below (hN_ HO_6.out) hb); have n1_ := Aside0.mk (Kd.N_below (hN_ HO_7.out) hb); have n2_ := Aside0.mk (below_step hB_ hb); clear HO_6; clear HO_7; clear HB; have HO_6 := n0_; have HO_7 := n1_; have HB := n2_; clear n0_ n1_ n2_; (try clear hb); (try clear hb2); (try clear hk); (try clear hi)) | ((with_reducible refine gate_callee (f := 17) rfl ?_); refine goesL_ (some 59) rfl rfl Tryd.func17 (by kernel_rfl) rfl #[.slice (some ⟨go26, 0, none⟩) y443.length co26, .int .i64 (wrap64 (Int.tmod (IntKind.u64.wrap (a1)) (IntKind.u64.wrap (ji5))))] rfl (by (try simp only [List.map_toArray, List.map_cons, List.map_nil]); first | done | (rw [show y443.length = x7_1.length from (Kd.N_reads' HO_7.out).1.symm] <;> rfl) | (simp only [hji5]; rfl) | rfl | (simp only [List.length_drop, List.length_take]; rfl)) ?_; (with_reducible refine (tree_Size.calls k1 _ _ y443 (wrap64 (Int.tmod (IntKind.u64.wrap (a1)) (IntKind.u64.wrap (ji5)))) t446 t447 _ ?side1 ?side2 A29.out hG_).mono ?_); (case side1 => repeat (first | exact (Kd.N_reads' HO_7.out).2.2 | (with_reducible refine Kd.C_alloc ?_ _) | (with_reducible refine Kd.C_drewN ?_ _) | (with_reducible refine Kd.C_drew ?_))); (case side2 => rw [show y443.length = x7_1.length from (Kd.N_reads' HO_7.out).1.symm]; exact (Kd.N_reads' HO_7.out).2.1); rintro e w36 ⟨rfl, hb⟩; refine ⟨_, rfl, ?_⟩; have n0_ := Aside0.mk (Kd.N_below (hN_ HO_6.out) hb); have n1_ := Aside0.mk (Kd.N_below (hN_ HO_7.out) hb); have n2_ := Aside0.mk (below_step hB_ hb); clear HO_6; clear HO_7; clear HB; have HO_6 := n0_; have HO_7 := n1_; have HB := n2_; clear n0_ n1_ n2_; (try clear hb); (try clear hb2); (try clear hk); (try clear hi)) | ((with_reducible refine gate_callee (f := 15) rfl ?_); refine goesL_ (some 65) rfl rfl Tryd.func15 (by kernel_rfl) rfl #[.slice (some ⟨go26, 0, none⟩) y443.length co26, .int .i64 (wrap64 (Int.tmod (IntKind.u64.wrap (a1)) (IntKind.u64.wrap (ji5))))] rfl (by (try simp only [List.map_toArray, List.map_cons, List.map_nil]); first | done | (rw [show y443.length = x7_1.length from (Kd.N_reads' HO_7.out).1.symm] <;> rfl) | (simp only [hji5]; rfl) | rfl | (simp only [List.length_drop, List.length_take]; rfl)) ?_; (with_reducible refine (tree_Kids.calls k1 _ _ y443 (wrap64 (Int.tmod (IntKind.u64.wrap (a1)) (IntKind.u64.wrap (ji5)))) t448 t449 _ ?side1 ?side2 A30.out hG_).mono ?_); (case side1 => repeat (first | exact (Kd.N_reads' HO_7.out).2.2 | (with_reducible refine Kd.C_alloc ?_ _) | (with_reducible refine Kd.C_drewN ?_ _) | (with_reducible refine Kd.C_drew ?_))); (case side2 => rw [show y443.length = x7_1.length from (Kd.N_reads' HO_7.out).1.symm]; exact (Kd.N_reads' HO_7.out).2.1); rintro e w37 ⟨v450, rfl, ho0, hb⟩; refine ⟨_, rfl, ?_⟩; have n0_ := Aside0.mk (Kd.N_elder' (hN_ HO_6.out) (Kd.R_base ho0) hb); have n1_ := Aside0.mk (Kd.N_elder' (hN_ HO_7.out) (Kd.R_base ho0) hb); have n2_ := Aside0.mk (Kd.R_lower ho0 hS_); have n3_ := Aside0.mk (below_step hB_ hb); clear HO_6; clear HO_7; clear HB; have HO_6 := n0_; have HO_7 := n1_; have HO451 := n2_; have HB := n3_; clear n0_ n1_ n2_ n3_; (try clear hb); (try clear hb2); (try clear hk); (try clear hi); (try clear ho0)))
                  (try simp only [Act.put, List.setIfInBounds_toArray, List.set_cons_zero, List.set_cons_succ])
                  go_cut [16] (fun v16 wc => ∃ (kq : Nat) (x16_30 : Int), v16 = .int .i64 x16_30 ∧ Aside0 (sleuthlaw13_TreeChain.j1 kq ji5 (wrap64 (Int.tmod (IntKind.u64.wrap (a1)) (IntKind.u64.wrap (ji5)))) t444 t445 t446 t447 t448 t449 x16_30 = some r) ∧ Aside0 (kq ≤ k1) ∧ Aside0 (Kd.R (Kd.int .i64) 3 wc w.heap.size (fun _ => True) v450 t448) ∧ Aside0 (Below w.heap.size w wc))
                  case first =>
                    have H := HC31.out
                    clear HC31
                    by_cases c38 : (wrap64 (Int.tmod (IntKind.u64.wrap (a1)) (IntKind.u64.wrap (ji5)))) = 0
                    · rw [if_pos c38] at H
                      have c38b0 : ((wrap64 (Int.tmod (IntKind.u64.wrap (a1)) (IntKind.u64.wrap (ji5)))) == 0) = true := beq_iff_eq.mpr c38
                      have c38b1 : ((wrap64 (Int.tmod (IntKind.u64.wrap (a1)) (IntKind.u64.wrap (ji5)))) != 0) = false := bne_eq_false_iff_eq.mpr c38
                      (try (have c38b0w := c38b0; (rw [show wrap64 (Int.tmod (IntKind.u64.wrap (a1)) (IntKind.u64.wrap (ji5))) = (Int.tmod (IntKind.u64.wrap (a1)) (IntKind.u64.wrap (ji5))) from by unfold wrap64; omega] at c38b0w)))
                      (try (have c38b1w := c38b1; (rw [show wrap64 (Int.tmod (IntKind.u64.wrap (a1)) (IntKind.u64.wrap (ji5))) = (Int.tmod (IntKind.u64.wrap (a1)) (IntKind.u64.wrap (ji5))) from by unfold wrap64; omega] at c38b1w)))
                      clear c38
                      (first | rw [c38b0] | (simp only [i64_w, i32_w]; rw [c38b0]) | skip)
                      have H' := Aside0.mk H
                      clear H
                      go_wp2
                      go_meet
                      case rel => exact ⟨_, (ji5), (by first | rfl | (simp; done) | (simp only [← hji5] <;> (first | rfl | simp)) | (simp [*]; done)), H', ⟨by have := HK1.out; first | omega | exact Nat.le_refl _⟩, ⟨by (with_reducible repeat (first | apply Kd.R_alloc | apply Kd.R_drewN | apply Kd.R_drew)); exact HO451.out⟩, ⟨by repeat (first | (with_reducible first | exact HB.out | apply below_alloc | apply pw_below_drewN | apply below_drew1) | exact HB.out)⟩⟩
                    · rw [if_neg c38] at H
                      have c38b0 : ((wrap64 (Int.tmod (IntKind.u64.wrap (a1)) (IntKind.u64.wrap (ji5)))) == 0) = false := beq_eq_false_iff_ne.mpr c38
                      have c38b1 : ((wrap64 (Int.tmod (IntKind.u64.wrap (a1)) (IntKind.u64.wrap (ji5)))) != 0) = true := bne_iff_ne.mpr c38
                      (try (have c38b0w := c38b0; (rw [show wrap64 (Int.tmod (IntKind.u64.wrap (a1)) (IntKind.u64.wrap (ji5))) = (Int.tmod (IntKind.u64.wrap (a1)) (IntKind.u64.wrap (ji5))) from by unfold wrap64; omega] at c38b0w)))
                      (try (have c38b1w := c38b1; (rw [show wrap64 (Int.tmod (IntKind.u64.wrap (a1)) (IntKind.u64.wrap (ji5))) = (Int.tmod (IntKind.u64.wrap (a1)) (IntKind.u64.wrap (ji5))) from by unfold wrap64; omega] at c38b1w)))
                      (first | rw [c38b0] | (simp only [i64_w, i32_w]; rw [c38b0]) | skip)
                      have H' := Aside0.mk H
                      clear H
                      go_wp2
                      go_meet
                      case rel => exact ⟨_, (1), (by first | rfl | (simp; done) | (simp [*]; done)), H', ⟨by have := HK1.out; first | omega | exact Nat.le_refl _⟩, ⟨by (with_reducible repeat (first | apply Kd.R_alloc | apply Kd.R_drewN | apply Kd.R_drew)); exact HO451.out⟩, ⟨by repeat (first | (with_reducible first | exact HB.out | apply below_alloc | apply pw_below_drewN | apply below_drew1) | exact HB.out)⟩⟩
                  case rest =>
                    clear HC31
                    try clear c1
                    try clear p1
                    try clear q1
                    try clear hx1
                    try clear c2
                    try clear p2
                    try clear q2
                    try clear hx2
                    try clear qi2
                    try clear hf2
                    try clear c3
                    try clear hx3
                    try clear hf3
                    try clear c4
                    try clear c6
                    try clear c6b0
                    try clear c6b1
                    try clear p6
                    try clear c7
                    try clear c7b0
                    try clear c7b1
                    try clear c15
                    try clear c15b0
                    try clear c16
                    try clear c16b0
                    try clear c17
                    try clear c17b0
                    try clear c18
                    try clear p18
                    try clear q18
                    try clear hx18
                    try clear hf18
                    try clear c19
                    try clear c19b0
                    try clear c20
                    try clear p20
                    try clear q20
                    try clear hx20
                    try clear hf20
                    try clear c21
                    try clear hx21
                    try clear hf21
                    try clear c23
                    try clear hx23
                    try clear hf23
                    try clear c25
                    try clear c25b0
                    try clear c25b1
                    try clear c26
                    try clear p26
                    try clear q26
                    try clear hx26
                    try clear qi26
                    try clear hf26
                    try clear c27
                    try clear c27b0
                    try clear c27b1
                    try clear c32
                    try clear hx32
                    try clear hf32
                    try clear c38
                    try clear c38b0
                    try clear c38b1
                    try clear hji5
                    try clear hji5w
                    try clear hx18_0
                    try clear hx18_1
                    try clear hx18_2
                    try clear hx18_3
                    try clear hx20_0
                    try clear hx20_1
                    try clear hx20_2
                    try clear hx20_3
                    try clear hx21_0
                    try clear hx21_1
                    try clear hx21_2
                    try clear hx21_3
                    try clear hx23_0
                    try clear hx23_1
                    try clear hx23_2
                    try clear hx23_3
                    try clear hx26_0
                    try clear hx26_1
                    try clear hx26_2
                    try clear hx26_3
                    try clear hx32_1
                    try clear p18
                    try clear p2
                    try clear p20
                    try clear p26
                    try clear p6
                    try clear q18
                    try clear q20
                    try clear q26
                    obtain ⟨kq, x16_30, rfl, HA, HJ30, HO_14, HB⟩ := hcut
                    cases kq with
                    | zero => exact absurd HA.out (by simp [sleuthlaw13_TreeChain.j1])
                    | succ kj30 =>
                      have H := HA.out
                      clear HA
                      simp only [sleuthlaw13_TreeChain.j1] at H
                      replace H := Option.bind_eq_some_iff.mp H
                      obtain ⟨t452, A390, H⟩ := H
                      replace H : (if t452 = 0 then (if t444 = (wrap64 (ji5 - (wrap64 (Int.tmod (IntKind.u64.wrap (a1)) (IntKind.u64.wrap (ji5)))))) then ((sleuthlaw0_Num.f t447).bind fun t453 => (if t453 = 0 then (if t446 = x16_30 then ((sleuthlaw0_Num.f t449).bind fun t454 => (if t454 = 0 then (if (t448.length : Int) = (wrap64 (x16_30 - 1)) then ((sleuthlaw13_some.f).bind fun t455 => (some ((t455.length : Int) == 5))) else (some false)) else (some false))) else (some false)) else (some false))) else (some false)) else (some false)) = some r := H
                      have A39 := Aside0.mk A390
                      clear A390
                      by_cases c40 : t452 = 0
                      · rw [if_pos c40] at H
                        have c40b0 : (t452 == 0) = true := beq_iff_eq.mpr c40
                        have c40b1 : (t452 != 0) = false := bne_eq_false_iff_eq.mpr c40
                        clear c40
                        by_cases c41 : t444 = (wrap64 (ji5 - (wrap64 (Int.tmod (IntKind.u64.wrap (a1)) (IntKind.u64.wrap (ji5))))))
                        · rw [if_pos c41] at H
                          have c41b0 : (t444 == (wrap64 (ji5 - (wrap64 (Int.tmod (IntKind.u64.wrap (a1)) (IntKind.u64.wrap (ji5))))))) = true := beq_iff_eq.mpr c41
                          have c41b1 : (t444 != (wrap64 (ji5 - (wrap64 (Int.tmod (IntKind.u64.wrap (a1)) (IntKind.u64.wrap (ji5))))))) = false := bne_eq_false_iff_eq.mpr c41
                          (try (have c41b0w := c41b0; try (rw [show wrap64 (Int.tmod (IntKind.u64.wrap (a1)) (IntKind.u64.wrap (ji5))) = (Int.tmod (IntKind.u64.wrap (a1)) (IntKind.u64.wrap (ji5))) from by unfold wrap64; omega] at c41b0w); try (rw [show wrap64 (ji5 - (wrap64 (Int.tmod (IntKind.u64.wrap (a1)) (IntKind.u64.wrap (ji5))))) = (ji5 - (wrap64 (Int.tmod (IntKind.u64.wrap (a1)) (IntKind.u64.wrap (ji5))))) from by unfold wrap64; omega] at c41b0w)))
                          (try (have c41b1w := c41b1; try (rw [show wrap64 (Int.tmod (IntKind.u64.wrap (a1)) (IntKind.u64.wrap (ji5))) = (Int.tmod (IntKind.u64.wrap (a1)) (IntKind.u64.wrap (ji5))) from by unfold wrap64; omega] at c41b1w); try (rw [show wrap64 (ji5 - (wrap64 (Int.tmod (IntKind.u64.wrap (a1)) (IntKind.u64.wrap (ji5))))) = (ji5 - (wrap64 (Int.tmod (IntKind.u64.wrap (a1)) (IntKind.u64.wrap (ji5))))) from by unfold wrap64; omega] at c41b1w)))
                          clear c41
                          replace H := Option.bind_eq_some_iff.mp H
                          obtain ⟨t453, A420, H⟩ := H
                          replace H : (if t453 = 0 then (if t446 = x16_30 then ((sleuthlaw0_Num.f t449).bind fun t454 => (if t454 = 0 then (if (t448.length : Int) = (wrap64 (x16_30 - 1)) then ((sleuthlaw13_some.f).bind fun t455 => (some ((t455.length : Int) == 5))) else (some false)) else (some false))) else (some false)) else (some false)) = some r := H
                          have A42 := Aside0.mk A420
                          clear A420
                          by_cases c43 : t453 = 0
                          · rw [if_pos c43] at H
                            have c43b0 : (t453 == 0) = true := beq_iff_eq.mpr c43
                            have c43b1 : (t453 != 0) = false := bne_eq_false_iff_eq.mpr c43
                            clear c43
                            by_cases c44 : t446 = x16_30
                            · rw [if_pos c44] at H
                              have c44b0 : (t446 == x16_30) = true := beq_iff_eq.mpr c44
                              have c44b1 : (t446 != x16_30) = false := bne_eq_false_iff_eq.mpr c44
                              clear c44
                              replace H := Option.bind_eq_some_iff.mp H
                              obtain ⟨t454, A450, H⟩ := H
                              replace H : (if t454 = 0 then (if (t448.length : Int) = (wrap64 (x16_30 - 1)) then ((sleuthlaw13_some.f).bind fun t455 => (some ((t455.length : Int) == 5))) else (some false)) else (some false)) = some r := H
                              have A45 := Aside0.mk A450
                              clear A450
                              by_cases c46 : t454 = 0
                              · rw [if_pos c46] at H
                                have c46b0 : (t454 == 0) = true := beq_iff_eq.mpr c46
                                have c46b1 : (t454 != 0) = false := bne_eq_false_iff_eq.mpr c46
                                clear c46
                                by_cases c47 : (t448.length : Int) = (wrap64 (x16_30 - 1))
                                · rw [if_pos c47] at H
                                  have c47b0 : ((t448.length : Int) == (wrap64 (x16_30 - 1))) = true := beq_iff_eq.mpr c47
                                  have c47b1 : ((t448.length : Int) != (wrap64 (x16_30 - 1))) = false := bne_eq_false_iff_eq.mpr c47
                                  (try (have c47b0w := c47b0; (rw [show wrap64 (x16_30 - 1) = (x16_30 - 1) from by unfold wrap64; omega] at c47b0w)))
                                  (try (have c47b1w := c47b1; (rw [show wrap64 (x16_30 - 1) = (x16_30 - 1) from by unfold wrap64; omega] at c47b1w)))
                                  clear c47
                                  replace H := Option.bind_eq_some_iff.mp H
                                  obtain ⟨t455, A480, H⟩ := H
                                  replace H : (some ((t455.length : Int) == 5)) = some r := H
                                  have A48 := Aside0.mk A480
                                  clear A480
                                  obtain rfl := Option.some.inj H
                                  go_wp2_with (first | ((with_reducible refine gate_callee (f := 20) rfl ?_); refine goesL_ (some 72) rfl rfl Tryd.func20 (by kernel_rfl) rfl #[.int .i64 t445] rfl hL_ ?_; (with_reducible refine (sleuthlaw0_Num.calls t445 t452 _ A39.out).mono ?_); rintro e w' ⟨rfl, ⟨nd, rfl⟩⟩; refine ⟨_, rfl, ?_⟩) | (go_at_call 20; (with_reducible refine (sleuthlaw0_Num.calls t447 t453 _ A42.out).mono ?_); rintro e w' ⟨rfl, ⟨nd, rfl⟩⟩) | (go_at_call 20; (with_reducible refine (sleuthlaw0_Num.calls t449 t454 _ A45.out).mono ?_); rintro e w' ⟨rfl, ⟨nd, rfl⟩⟩; obtain ⟨Ao49, co49, eo49⟩ := Kd.R_slice HO_14.out; subst eo49) | (go_at_call 25; (with_reducible refine (sleuthlaw13_some.calls  t455 _ A48.out).mono ?_); rintro e w50 ⟨v456, rfl, ho0, hb⟩; have n0_ := Aside0.mk (Kd.R_below (hR_ HO_14.out) hb); have n1_ := Aside0.mk (Kd.N_lower (Kd.N_mono (ok' := fun k_ => some k_ ≠ (.slice Ao49 t448.length co49 : Value).ownBlock) ho0 (fun k_ hk_ => (Kd.fresh' (Kd.R_lt (hR_ HO_14.out)) k_ hk_))) hS_); have n2_ := Aside0.mk (below_step hB_ hb); clear HO_14; clear HB; have HO_14 := n0_; have HO457 := n1_; have HB := n2_; clear n0_ n1_ n2_; (try clear hb); (try clear hb2); (try clear hk); (try clear hi); (try clear ho0); obtain ⟨Ao51, co51, eo51⟩ := Kd.N_slice HO457.out; subst eo51))
                                  go_ret
                                  exact ⟨by first | rfl | (simp [errW_none, errW_some] <;> rfl) | (simp only [← hji5]; first | rfl | (simp [errW_none, errW_some] <;> rfl)) | (simp [*, errW_none, errW_some] <;> rfl), by repeat (first | (with_reducible first | exact HB.out | apply below_alloc | apply pw_below_drewN | apply below_drew1) | exact HB.out)⟩
                                · rw [if_neg c47] at H
                                  have c47b0 : ((t448.length : Int) == (wrap64 (x16_30 - 1))) = false := beq_eq_false_iff_ne.mpr c47
                                  have c47b1 : ((t448.length : Int) != (wrap64 (x16_30 - 1))) = true := bne_iff_ne.mpr c47
                                  (try (have c47b0w := c47b0; (rw [show wrap64 (x16_30 - 1) = (x16_30 - 1) from by unfold wrap64; omega] at c47b0w)))
                                  (try (have c47b1w := c47b1; (rw [show wrap64 (x16_30 - 1) = (x16_30 - 1) from by unfold wrap64; omega] at c47b1w)))
                                  obtain rfl := Option.some.inj H
                                  go_wp2_with (first | ((with_reducible refine gate_callee (f := 20) rfl ?_); refine goesL_ (some 72) rfl rfl Tryd.func20 (by kernel_rfl) rfl #[.int .i64 t445] rfl hL_ ?_; (with_reducible refine (sleuthlaw0_Num.calls t445 t452 _ A39.out).mono ?_); rintro e w' ⟨rfl, ⟨nd, rfl⟩⟩; refine ⟨_, rfl, ?_⟩) | (go_at_call 20; (with_reducible refine (sleuthlaw0_Num.calls t447 t453 _ A42.out).mono ?_); rintro e w' ⟨rfl, ⟨nd, rfl⟩⟩) | (go_at_call 20; (with_reducible refine (sleuthlaw0_Num.calls t449 t454 _ A45.out).mono ?_); rintro e w' ⟨rfl, ⟨nd, rfl⟩⟩; obtain ⟨Ao52, co52, eo52⟩ := Kd.R_slice HO_14.out; subst eo52))
                                  go_ret
                                  exact ⟨by first | rfl | (simp [errW_none, errW_some] <;> rfl) | (simp only [← hji5]; first | rfl | (simp [errW_none, errW_some] <;> rfl)) | (simp [*, errW_none, errW_some] <;> rfl), by repeat (first | (with_reducible first | exact HB.out | apply below_alloc | apply pw_below_drewN | apply below_drew1) | exact HB.out)⟩
                              · rw [if_neg c46] at H
                                have c46b0 : (t454 == 0) = false := beq_eq_false_iff_ne.mpr c46
                                have c46b1 : (t454 != 0) = true := bne_iff_ne.mpr c46
                                obtain rfl := Option.some.inj H
                                go_wp2_with (first | ((with_reducible refine gate_callee (f := 20) rfl ?_); refine goesL_ (some 72) rfl rfl Tryd.func20 (by kernel_rfl) rfl #[.int .i64 t445] rfl hL_ ?_; (with_reducible refine (sleuthlaw0_Num.calls t445 t452 _ A39.out).mono ?_); rintro e w' ⟨rfl, ⟨nd, rfl⟩⟩; refine ⟨_, rfl, ?_⟩) | (go_at_call 20; (with_reducible refine (sleuthlaw0_Num.calls t447 t453 _ A42.out).mono ?_); rintro e w' ⟨rfl, ⟨nd, rfl⟩⟩) | (go_at_call 20; (with_reducible refine (sleuthlaw0_Num.calls t449 t454 _ A45.out).mono ?_); rintro e w' ⟨rfl, ⟨nd, rfl⟩⟩))
                                go_ret
                                exact ⟨by first | rfl | (simp [errW_none, errW_some] <;> rfl) | (simp only [← hji5]; first | rfl | (simp [errW_none, errW_some] <;> rfl)) | (simp [*, errW_none, errW_some] <;> rfl), by repeat (first | (with_reducible first | exact HB.out | apply below_alloc | apply pw_below_drewN | apply below_drew1) | exact HB.out)⟩
                            · rw [if_neg c44] at H
                              have c44b0 : (t446 == x16_30) = false := beq_eq_false_iff_ne.mpr c44
                              have c44b1 : (t446 != x16_30) = true := bne_iff_ne.mpr c44
                              obtain rfl := Option.some.inj H
                              go_wp2_with (first | ((with_reducible refine gate_callee (f := 20) rfl ?_); refine goesL_ (some 72) rfl rfl Tryd.func20 (by kernel_rfl) rfl #[.int .i64 t445] rfl hL_ ?_; (with_reducible refine (sleuthlaw0_Num.calls t445 t452 _ A39.out).mono ?_); rintro e w' ⟨rfl, ⟨nd, rfl⟩⟩; refine ⟨_, rfl, ?_⟩) | (go_at_call 20; (with_reducible refine (sleuthlaw0_Num.calls t447 t453 _ A42.out).mono ?_); rintro e w' ⟨rfl, ⟨nd, rfl⟩⟩))
                              go_ret
                              exact ⟨by first | rfl | (simp [errW_none, errW_some] <;> rfl) | (simp only [← hji5]; first | rfl | (simp [errW_none, errW_some] <;> rfl)) | (simp [*, errW_none, errW_some] <;> rfl), by repeat (first | (with_reducible first | exact HB.out | apply below_alloc | apply pw_below_drewN | apply below_drew1) | exact HB.out)⟩
                          · rw [if_neg c43] at H
                            have c43b0 : (t453 == 0) = false := beq_eq_false_iff_ne.mpr c43
                            have c43b1 : (t453 != 0) = true := bne_iff_ne.mpr c43
                            obtain rfl := Option.some.inj H
                            go_wp2_with (first | ((with_reducible refine gate_callee (f := 20) rfl ?_); refine goesL_ (some 72) rfl rfl Tryd.func20 (by kernel_rfl) rfl #[.int .i64 t445] rfl hL_ ?_; (with_reducible refine (sleuthlaw0_Num.calls t445 t452 _ A39.out).mono ?_); rintro e w' ⟨rfl, ⟨nd, rfl⟩⟩; refine ⟨_, rfl, ?_⟩) | (go_at_call 20; (with_reducible refine (sleuthlaw0_Num.calls t447 t453 _ A42.out).mono ?_); rintro e w' ⟨rfl, ⟨nd, rfl⟩⟩))
                            go_ret
                            exact ⟨by first | rfl | (simp [errW_none, errW_some] <;> rfl) | (simp only [← hji5]; first | rfl | (simp [errW_none, errW_some] <;> rfl)) | (simp [*, errW_none, errW_some] <;> rfl), by repeat (first | (with_reducible first | exact HB.out | apply below_alloc | apply pw_below_drewN | apply below_drew1) | exact HB.out)⟩
                        · rw [if_neg c41] at H
                          have c41b0 : (t444 == (wrap64 (ji5 - (wrap64 (Int.tmod (IntKind.u64.wrap (a1)) (IntKind.u64.wrap (ji5))))))) = false := beq_eq_false_iff_ne.mpr c41
                          have c41b1 : (t444 != (wrap64 (ji5 - (wrap64 (Int.tmod (IntKind.u64.wrap (a1)) (IntKind.u64.wrap (ji5))))))) = true := bne_iff_ne.mpr c41
                          (try (have c41b0w := c41b0; try (rw [show wrap64 (Int.tmod (IntKind.u64.wrap (a1)) (IntKind.u64.wrap (ji5))) = (Int.tmod (IntKind.u64.wrap (a1)) (IntKind.u64.wrap (ji5))) from by unfold wrap64; omega] at c41b0w); try (rw [show wrap64 (ji5 - (wrap64 (Int.tmod (IntKind.u64.wrap (a1)) (IntKind.u64.wrap (ji5))))) = (ji5 - (wrap64 (Int.tmod (IntKind.u64.wrap (a1)) (IntKind.u64.wrap (ji5))))) from by unfold wrap64; omega] at c41b0w)))
                          (try (have c41b1w := c41b1; try (rw [show wrap64 (Int.tmod (IntKind.u64.wrap (a1)) (IntKind.u64.wrap (ji5))) = (Int.tmod (IntKind.u64.wrap (a1)) (IntKind.u64.wrap (ji5))) from by unfold wrap64; omega] at c41b1w); try (rw [show wrap64 (ji5 - (wrap64 (Int.tmod (IntKind.u64.wrap (a1)) (IntKind.u64.wrap (ji5))))) = (ji5 - (wrap64 (Int.tmod (IntKind.u64.wrap (a1)) (IntKind.u64.wrap (ji5))))) from by unfold wrap64; omega] at c41b1w)))
                          obtain rfl := Option.some.inj H
                          go_wp2_with (first | ((with_reducible refine gate_callee (f := 20) rfl ?_); refine goesL_ (some 72) rfl rfl Tryd.func20 (by kernel_rfl) rfl #[.int .i64 t445] rfl hL_ ?_; (with_reducible refine (sleuthlaw0_Num.calls t445 t452 _ A39.out).mono ?_); rintro e w' ⟨rfl, ⟨nd, rfl⟩⟩; refine ⟨_, rfl, ?_⟩))
                          go_ret
                          exact ⟨by first | rfl | (simp [errW_none, errW_some] <;> rfl) | (simp only [← hji5]; first | rfl | (simp [errW_none, errW_some] <;> rfl)) | (simp [*, errW_none, errW_some] <;> rfl), by repeat (first | (with_reducible first | exact HB.out | apply below_alloc | apply pw_below_drewN | apply below_drew1) | exact HB.out)⟩
                      · rw [if_neg c40] at H
                        have c40b0 : (t452 == 0) = false := beq_eq_false_iff_ne.mpr c40
                        have c40b1 : (t452 != 0) = true := bne_iff_ne.mpr c40
                        obtain rfl := Option.some.inj H
                        go_wp2_with (first | ((with_reducible refine gate_callee (f := 20) rfl ?_); refine goesL_ (some 72) rfl rfl Tryd.func20 (by kernel_rfl) rfl #[.int .i64 t445] rfl hL_ ?_; (with_reducible refine (sleuthlaw0_Num.calls t445 t452 _ A39.out).mono ?_); rintro e w' ⟨rfl, ⟨nd, rfl⟩⟩; refine ⟨_, rfl, ?_⟩))
                        go_ret
                        exact ⟨by first | rfl | (simp [errW_none, errW_some] <;> rfl) | (simp only [← hji5]; first | rfl | (simp [errW_none, errW_some] <;> rfl)) | (simp [*, errW_none, errW_some] <;> rfl), by repeat (first | (with_reducible first | exact HB.out | apply below_alloc | apply pw_below_drewN | apply below_drew1) | exact HB.out)⟩
              · rw [if_neg c25] at H
                exact absurd H (by simp)
      · rw [if_neg c7] at H
        exact absurd H (by simp)
    · rw [if_neg c6] at H
      exact absurd H (by simp)
  · replace c4 := Bool.eq_false_iff.mpr c4
    subst c4
    have H1 : (some false) = some r := by rw [if_neg (show ¬ (false = true) by decide)] at H; exact H
    clear H
    have H := H1
    clear H1
    obtain rfl := Option.some.inj H
    go_enter Tryd.func7, Tryd.ntmps7
    go_wp2_with (first | ((with_reducible refine gate_callee (f := 23) rfl ?_); refine goesL_ (some 17) rfl rfl Tryd.func23 (by kernel_rfl) rfl #[] rfl hL_ ?_; (with_reducible refine (sleuthlaw13_awake.calls k  false _ A3.out hG_).mono ?_); rintro e w53 ⟨rfl, hb⟩; refine ⟨_, rfl, ?_⟩; have n0_ := Aside0.mk (below_step hB_ hb); clear HB; have HB := n0_; clear n0_; (try clear hb); (try clear hb2); (try clear hk); (try clear hi)))
    go_ret
    exact ⟨by first | rfl | (simp [errW_none, errW_some] <;> rfl) | (simp [*, errW_none, errW_some] <;> rfl), by repeat (first | (with_reducible first | exact HB.out | apply below_alloc | apply pw_below_drewN | apply below_drew1) | exact HB.out)⟩

/-- THE ONE PURE STATEMENT of sleuthlaw13_TreeChain: yours. -/
def sleuthlaw13_TreeChain.Pure : Prop := ∀ (a0 : Int) (a1 : Int), (Lit.int .i64 a0).wf = true → (Lit.int .i64 a1).wf = true → ∃ k, sleuthlaw13_TreeChain.f k a0 a1 = some true
theorem sleuthlaw13_TreeChain.walk (P : sleuthlaw13_TreeChain.Pure) (a0 : Int) (a1 : Int) (w : World) (w0 : (Lit.int .i64 a0).wf = true) (w1 : (Lit.int .i64 a1).wf = true) (hG : GOK w) :
    Calls Tryd.prog 7 #[.int .i64 a0, .int .i64 a1] w fun e w' => e = .returned (.bool true) ∧ Below w.heap.size w w' := by
  obtain ⟨k, h⟩ := P a0 a1 w0 w1
  refine (sleuthlaw13_TreeChain.calls k a0 a1 true w h hG).mono ?_
  rintro e w' ⟨rfl, hd⟩
  exact ⟨rfl, hd⟩

end Go.Proofs.YtgcdbpnflchobaaDoor.G
