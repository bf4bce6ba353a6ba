/- Parts of this proof, one behind the other: G24, G25, G26, G27. -/
import Derived.Test.YtgcdbpnflchobaaDoorBase
import Derived.Test.YtgcdbpnflchobaaDoorGR
import Derived.Test.YtgcdbpnflchobaaDoorGS
import Derived.Test.YtgcdbpnflchobaaDoorGT
section
-- Laid by the session's own driver gp.py over the kit's printer. Not trusted: Lean checks it.
namespace Go.Proofs.YtgcdbpnflchobaaDoor.G
open Go.RowKit Go.Proofs.YtgcdbpnflchobaaDoorW.PrintWords Go.Proofs.YtgcdbpnflchobaaDoorW.PrintLast Go.Proofs.YtgcdbpnflchobaaDoorW.PrintMore
attribute [local go_sem] max2_int min2_int max_two min_two max_three min_three max_four min_four   -- for this text's walks alone
set_option linter.unusedVariables false
set_option linter.unusedSimpArgs false

/-! ### sleuthref12_kids: function 36 -/
def sleuthref12_kids.l0 : Nat → List (S44) → Int → List Int → Int → Option (List Int)
  | 0, _, _, _, _ => none
  | k + 1, x0, x1, x5, x6 => if x6 < (x0.length : Int) then (if 0 ≤ x6 then (if ((rd_T44 x0 x6).f1) = x1 then (if x5.length < 17592186044416 then (sleuthref12_kids.l0 k x0 x1 (x5 ++ [x6]) (wrap64 (x6 + 1))) else (none)) else (sleuthref12_kids.l0 k x0 x1 x5 (wrap64 (x6 + 1)))) else (none)) else (some x5)
def sleuthref12_kids.f (k : Nat) (l0 : List (S44)) (a1 : Int) : Option (List Int) := sleuthref12_kids.l0 k l0 a1 ([] : List Int) 0
theorem sleuthref12_kids.mono_l : ∀ k, (∀ y0 y1 y2 y3, LeO (sleuthref12_kids.l0 k y0 y1 y2 y3) (sleuthref12_kids.l0 (k + 1) y0 y1 y2 y3))
  | 0 => fun _ _ _ _ r h => by simp [sleuthref12_kids.l0] at h
  | k + 1 => by
    have ih0 := sleuthref12_kids.mono_l k
    · intro y0 y1 y2 y3
      unfold sleuthref12_kids.l0
      repeat' first
      | (with_reducible exact ih0 _ _ _ _)
      | (with_reducible exact LeO.refl _)
      | (with_reducible exact LeO.none _)
      | (with_reducible refine LeO.ite ?_ ?_)
      | (with_reducible refine LeO.bind ?_ (fun _ => ?_))
      | exact ih0 _ _ _ _
      | exact LeO.none _
      | refine LeO.ite ?_ ?_
      | refine LeO.bind ?_ (fun _ => ?_)
theorem sleuthref12_kids.mono : ∀ a0 a1 k, LeO (sleuthref12_kids.f k a0 a1) (sleuthref12_kids.f (k + 1) a0 a1) := by
  intro a0 a1 k
  have ih0 := sleuthref12_kids.mono_l k
  unfold sleuthref12_kids.f
  repeat' first
      | (with_reducible exact ih0 _ _ _ _)
      | (with_reducible exact LeO.refl _)
      | (with_reducible exact LeO.none _)
      | (with_reducible refine LeO.ite ?_ ?_)
      | (with_reducible refine LeO.bind ?_ (fun _ => ?_))
      | exact ih0 _ _ _ _
      | exact LeO.none _
      | refine LeO.ite ?_ ?_
      | refine LeO.bind ?_ (fun _ => ?_)
set_option maxHeartbeats 8000000 in
set_option maxRecDepth 100000 in
theorem sleuthref12_kids.calls (k : Nat) (A0 : Option Addr) (c0 : Nat) (l0 : List (S44)) (a1 : Int) (r : List Int) (w : World) (hr0 : Kd.C k44 w A0 l0.length l0) (hc0 : l0.length ≤ c0) (h : sleuthref12_kids.f k l0 a1 = some r) :
    Calls Tryd.prog 36 #[.slice A0 l0.length c0, .int .i64 a1] w fun e w' => ∃ v0_ : Value, e = .returned (v0_) ∧ Kd.R (Kd.int .i64) 3 w' w.heap.size (fun _ => True) v0_ r ∧ Below w.heap.size w w' := by
  have HR0 := Aside0.mk hr0
  have HC0 := Aside0.mk hc0
  clear hr0 hc0
  have HB := Aside0.mk (Below.refl w.heap.size w)
  have H : (sleuthref12_kids.l0 k l0 a1 ([] : List Int) 0) = some r := h
  clear h
  have H' := Aside0.mk H
  clear H
  go_enter Tryd.func36, Tryd.ntmps36
  go_wp2
  go_loopg [5, 6] k (fun kq v5 v6 w' => ∃ (x5_1 : List Int) (x6_1 : Int), v6 = .int .i64 x6_1 ∧ Aside0 (sleuthref12_kids.l0 kq l0 a1 x5_1 x6_1 = some r) ∧ Aside0 (kq ≤ k) ∧ Aside0 (Kd.R (Kd.int .i64) 3 w' w.heap.size (fun _ => True) v5 x5_1) ∧ Aside0 (Below w.heap.size w w'))
  case atStart => exact ⟨(([] : List Int)), (0), (by first | rfl | (simp; done) | (simp [*]; done)), H', ⟨Nat.le_refl _⟩, ⟨by first | exact Kd.R_nil _ _ _ _ _ | exact Kd.N_nil _ _ _ _ _ | exact Kd.V_nil _ _ _ _ _ | exact Kd.Q_nil _ _ _ _ _ | exact Kd.S_nil _ _ _ _ _⟩, ⟨by repeat (first | (with_reducible first | exact HB.out | apply below_alloc | apply pw_below_drewN | apply below_drew1) | exact HB.out)⟩⟩
  case round =>
    clear H'
    try clear p2
    obtain ⟨x5_1, x6_1, rfl, HA, HK1, HO_5, HB⟩ := hrel
    cases gk with
    | zero => exact absurd HA.out (by simp [sleuthref12_kids.l0])
    | succ k1 =>
      have H := HA.out
      clear HA
      simp only [sleuthref12_kids.l0] at H
      by_cases c3 : x6_1 < (l0.length : Int)
      · rw [if_pos c3] at H
        have c3b0 : decide (x6_1 < (l0.length : Int)) = true := decide_eq_true c3
        clear c3
        by_cases c4 : 0 ≤ x6_1
        · rw [if_pos c4] at H
          have c4b0 : decide (0 ≤ x6_1) = true := decide_eq_true c4
          clear c4
          by_cases c5 : ((rd_T44 l0 x6_1).f1) = a1
          · rw [if_pos c5] at H
            have c5b0 : (((rd_T44 l0 x6_1).f1) == a1) = true := beq_iff_eq.mpr c5
            have c5b1 : (((rd_T44 l0 x6_1).f1) != a1) = false := bne_eq_false_iff_eq.mpr c5
            clear c5
            by_cases c6 : x5_1.length < 17592186044416
            · rw [if_pos c6] at H
              have LMc6 := Aside0.mk c6
              clear c6
              obtain ⟨y264, hy264⟩ : ∃ y_ : List Int, y_ = (x5_1 ++ [x6_1]) := ⟨_, rfl⟩
              replace H : (sleuthref12_kids.l0 k1 l0 a1 y264 (wrap64 (x6_1 + 1))) = some r := by first | (rw [hy264]; with_reducible exact H) | (have H2_ := (Option.bind_some _ _).symm.trans H; rw [hy264]; with_reducible exact H2_) | (have H2_ := (Option.bind_some _ _).symm.trans H; with_reducible exact H2_) | with_reducible exact H | (rw [hy264]; exact H) | exact H
              have Ny264 := Aside0.mk hy264
              clear hy264
              have H' := Aside0.mk H
              clear H
              have p263 : 0 ≤ (x6_1 : Int) := of_decide_eq_true hA_
              have q263 : x6_1 < (l0.length : Int) := of_decide_eq_true hA_
              obtain ⟨ad263, A263_2, c263_2, e263, hx263_0, hx263_1, hx263_2, hx263_3, hl263_2, hi263_2⟩ := at_T44 HR0.out x6_1 p263 q263
              cases e263
              replace hx263_0 := (HB.out.cell (World.block_lt_of_cell? w _ hx263_0)).trans hx263_0
              replace hx263_1 := (HB.out.cell (World.block_lt_of_cell? w _ hx263_1)).trans hx263_1
              replace hx263_2 := (HB.out.cell (World.block_lt_of_cell? w _ hx263_2)).trans hx263_2
              replace hx263_3 := (HB.out.cell (World.block_lt_of_cell? w _ hx263_3)).trans hx263_3
              have HR263_2 := Aside0.mk hi263_2
              have HC263_2 := Aside0.mk hl263_2
              clear hi263_2 hl263_2
              replace p263 := eq_true p263
              replace q263 := eq_true q263
              go_wp2_with (first | ((with_reducible refine gate_builtin (b := .append) (xs := #[.tmp 20, .tmp 22]) rfl ?_); at_builtin; refine Kd.R_append (Kd.int .i64) (w0 := w) w.heap.size rfl (.tmp 20) (.tmp 22) 24 3 (.int .i64 0) 8 rfl Tryd.underlying24 info3 rfl (by decide) (by omega) u5 x5_1 x6_1 [.int .i64 x6_1] (fun _ => True) (fun _ => False) rfl rfl ?aP (fun _ hk => hk.elim) ?aF ?aO ?aB ?aS ?aL ?_; (case aP => exact rfl); (case aB => exact hB_); (case aF => exact (fun _ _ => trivial)); (case aO => exact (hR_ HO_5.out)); (case aS => exact hS_); (case aL => have := LMc6.out; omega); intro v265 w7 ho hb hg hat; rw [← Ny264.out] at ho; have n0_ := Aside0.mk (hb); have n1_ := Aside0.mk (ho); clear HB; clear HO_5; have HB := n0_; have HO266 := n1_; clear n0_ n1_; clear ho hb hg hat))
              go_roundg k1
              case measure => have := HK1.out; omega
              case rel => exact ⟨(y264), (wrap64 (x6_1 + 1)), (by first | rfl | (simp; done) | (simp [*]; done)), H', ⟨by have := HK1.out; omega⟩, ⟨by (with_reducible repeat (first | apply Kd.R_alloc | apply Kd.R_drewN | apply Kd.R_drew)); exact HO266.out⟩, ⟨by repeat (first | (with_reducible first | exact HB.out | apply below_alloc | apply pw_below_drewN | apply below_drew1) | exact HB.out)⟩⟩
            · rw [if_neg c6] at H
              exact absurd H (by simp)
          · rw [if_neg c5] at H
            have c5b0 : (((rd_T44 l0 x6_1).f1) == a1) = false := beq_eq_false_iff_ne.mpr c5
            have c5b1 : (((rd_T44 l0 x6_1).f1) != a1) = true := bne_iff_ne.mpr c5
            have H' := Aside0.mk H
            clear H
            have p263 : 0 ≤ (x6_1 : Int) := of_decide_eq_true hA_
            have q263 : x6_1 < (l0.length : Int) := of_decide_eq_true hA_
            obtain ⟨ad263, A263_2, c263_2, e263, hx263_0, hx263_1, hx263_2, hx263_3, hl263_2, hi263_2⟩ := at_T44 HR0.out x6_1 p263 q263
            cases e263
            replace hx263_0 := (HB.out.cell (World.block_lt_of_cell? w _ hx263_0)).trans hx263_0
            replace hx263_1 := (HB.out.cell (World.block_lt_of_cell? w _ hx263_1)).trans hx263_1
            replace hx263_2 := (HB.out.cell (World.block_lt_of_cell? w _ hx263_2)).trans hx263_2
            replace hx263_3 := (HB.out.cell (World.block_lt_of_cell? w _ hx263_3)).trans hx263_3
            have HR263_2 := Aside0.mk hi263_2
            have HC263_2 := Aside0.mk hl263_2
            clear hi263_2 hl263_2
            replace p263 := eq_true p263
            replace q263 := eq_true q263
            go_wp2
            go_roundg k1
            case measure => have := HK1.out; omega
            case rel => exact ⟨(x5_1), (wrap64 (x6_1 + 1)), (by first | rfl | (simp; done) | (simp [*]; done)), H', ⟨by have := HK1.out; omega⟩, ⟨by (with_reducible repeat (first | apply Kd.R_alloc | apply Kd.R_drewN | apply Kd.R_drew)); exact HO_5.out⟩, ⟨by repeat (first | (with_reducible first | exact HB.out | apply below_alloc | apply pw_below_drewN | apply below_drew1) | exact HB.out)⟩⟩
        · rw [if_neg c4] at H
          exact absurd H (by simp)
      · rw [if_neg c3] at H
        have c3b0 : decide (x6_1 < (l0.length : Int)) = false := decide_eq_false c3
        clear c3
        obtain rfl := Option.some.inj H
        go_wp2
        go_ret
        exact ⟨_, by first | rfl | (simp [errW_none, errW_some] <;> rfl) | (simp [*, errW_none, errW_some] <;> rfl), by (with_reducible repeat (first | apply Kd.R_alloc | apply Kd.R_drewN | apply Kd.R_drew)); exact HO_5.out, by repeat (first | (with_reducible first | exact HB.out | apply below_alloc | apply pw_below_drewN | apply below_drew1) | exact HB.out)⟩

/-! ### sleuthref12_Kids: function 16 -/
def sleuthref12_Kids.f (k : Nat) (l0 : List (S44)) (a1 : Int) : Option (List Int × Int) := (sleuthref12_TrailMay.f k l0).bind fun t267 => (if t267 = true then ((sleuthref12_upTo.f a1 0 (wrap64 ((l0.length : Int) - 1))).bind fun t268 => (if t268 = true then ((sleuthref12_kids.f k l0 a1).bind fun t269 => (some (t269, 0))) else (some (([] : List Int), 1300)))) else (some (([] : List Int), 1300)))
theorem sleuthref12_Kids.mono : ∀ a0 a1 k, LeO (sleuthref12_Kids.f k a0 a1) (sleuthref12_Kids.f (k + 1) a0 a1) := by
  intro a0 a1 k
  unfold sleuthref12_Kids.f
  repeat' first
      | (with_reducible exact sleuthref12_TrailMay.mono _ _)
      | (with_reducible exact sleuthref12_kids.mono _ _ _)
      | (with_reducible exact LeO.refl _)
      | (with_reducible exact LeO.none _)
      | (with_reducible refine LeO.ite ?_ ?_)
      | (with_reducible refine LeO.bind ?_ (fun _ => ?_))
      | exact sleuthref12_TrailMay.mono _ _
      | exact sleuthref12_kids.mono _ _ _
      | exact LeO.none _
      | refine LeO.ite ?_ ?_
      | refine LeO.bind ?_ (fun _ => ?_)
set_option maxHeartbeats 8000000 in
set_option maxRecDepth 100000 in
theorem sleuthref12_Kids.calls (k : Nat) (A0 : Option Addr) (c0 : Nat) (l0 : List (S44)) (a1 : Int) (r1 : List Int) (r2 : Int) (w : World) (hr0 : Kd.C k44 w A0 l0.length l0) (hc0 : l0.length ≤ c0) (h : sleuthref12_Kids.f k l0 a1 = some (r1, r2)) :
    Calls Tryd.prog 16 #[.slice A0 l0.length c0, .int .i64 a1] w fun e w' => ∃ v0_ : Value, e = .returned (.tuple #[v0_, .int .i64 r2]) ∧ Kd.R (Kd.int .i64) 3 w' w.heap.size (fun _ => True) v0_ r1 ∧ Below w.heap.size w w' := by
  have HR0 := Aside0.mk hr0
  have HC0 := Aside0.mk hc0
  clear hr0 hc0
  have HB := Aside0.mk (Below.refl w.heap.size w)
  have H : ((sleuthref12_TrailMay.f k l0).bind fun t267 => (if t267 = true then ((sleuthref12_upTo.f a1 0 (wrap64 ((l0.length : Int) - 1))).bind fun t268 => (if t268 = true then ((sleuthref12_kids.f k l0 a1).bind fun t269 => (some (t269, 0))) else (some (([] : List Int), 1300)))) else (some (([] : List Int), 1300)))) = some (r1, r2) := h
  clear h
  replace H := Option.bind_eq_some_iff.mp H
  obtain ⟨t267, A30, H⟩ := H
  replace H : (if t267 = true then ((sleuthref12_upTo.f a1 0 (wrap64 ((l0.length : Int) - 1))).bind fun t268 => (if t268 = true then ((sleuthref12_kids.f k l0 a1).bind fun t269 => (some (t269, 0))) else (some (([] : List Int), 1300)))) else (some (([] : List Int), 1300))) = some (r1, r2) := H
  have A3 := Aside0.mk A30
  clear A30
  by_cases c4 : t267 = true
  · subst c4
    have H1 : ((sleuthref12_upTo.f a1 0 (wrap64 ((l0.length : Int) - 1))).bind fun t268 => (if t268 = true then ((sleuthref12_kids.f k l0 a1).bind fun t269 => (some (t269, 0))) else (some (([] : List Int), 1300)))) = some (r1, r2) := by rw [if_pos rfl] at H; exact H
    clear H
    have H := H1
    clear H1
    replace H := Option.bind_eq_some_iff.mp H
    obtain ⟨t268, A50, H⟩ := H
    replace H : (if t268 = true then ((sleuthref12_kids.f k l0 a1).bind fun t269 => (some (t269, 0))) else (some (([] : List Int), 1300))) = some (r1, r2) := H
    have A5 := Aside0.mk A50
    clear A50
    by_cases c6 : t268 = true
    · subst c6
      have H1 : ((sleuthref12_kids.f k l0 a1).bind fun t269 => (some (t269, 0))) = some (r1, r2) := by rw [if_pos rfl] at H; exact H
      clear H
      have H := H1
      clear H1
      replace H := Option.bind_eq_some_iff.mp H
      obtain ⟨t269, A70, H⟩ := H
      replace H : (some (t269, 0)) = some (r1, r2) := H
      have A7 := Aside0.mk A70
      clear A70
      simp only [Option.some.injEq, Prod.mk.injEq] at H
      obtain ⟨rfl, rfl⟩ := H
      go_enter Tryd.func16, Tryd.ntmps16
      go_wp2_with (first | ((with_reducible refine gate_callee (f := 24) rfl ?_); refine goesL_ (some 7) rfl rfl Tryd.func24 (by kernel_rfl) rfl #[.slice A0 l0.length c0] rfl hL_ ?_; (with_reducible refine (sleuthref12_TrailMay.calls k _ _ l0 true _ ?side1 ?side2 A3.out).mono ?_); (case side1 => repeat (first | exact HR0.out | (with_reducible refine Kd.C_alloc ?_ _) | (with_reducible refine Kd.C_drewN ?_ _) | (with_reducible refine Kd.C_drew ?_))); (case side2 => exact HC0.out); rintro e w8 ⟨rfl, hb⟩; refine ⟨_, rfl, ?_⟩; have n0_ := Aside0.mk (below_step hB_ hb); clear HB; have HB := n0_; clear n0_; (try clear hb); (try clear hb2); (try clear hk); (try clear hi)) | (go_at_call 35; (with_reducible refine (sleuthref12_upTo.calls a1 0 (wrap64 ((l0.length : Int) - 1)) true _ A5.out).mono ?_); rintro e w' ⟨rfl, ⟨nd, rfl⟩⟩) | ((with_reducible refine gate_callee (f := 36) rfl ?_); refine goesL_ (some 19) rfl rfl Tryd.func36 (by kernel_rfl) rfl #[.slice A0 l0.length c0, .int .i64 a1] rfl hL_ ?_; (with_reducible refine (sleuthref12_kids.calls k _ _ l0 a1 t269 _ ?side1 ?side2 A7.out).mono ?_); (case side1 => repeat (first | exact (Kd.C_below HR0.out hB_) | (with_reducible refine Kd.C_alloc ?_ _) | (with_reducible refine Kd.C_drewN ?_ _) | (with_reducible refine Kd.C_drew ?_))); (case side2 => exact HC0.out); rintro e w9 ⟨v270, rfl, ho0, hb⟩; refine ⟨_, rfl, ?_⟩; have n0_ := Aside0.mk (Kd.R_lower ho0 hS_); have n1_ := Aside0.mk (below_step hB_ hb); clear HB; have HO271 := n0_; have HB := n1_; clear n0_ n1_; (try clear hb); (try clear hb2); (try clear hk); (try clear hi); (try clear ho0)))
      go_ret2
      exact ⟨_, by first | rfl | (simp [errW_none, errW_some] <;> rfl) | (simp [*, errW_none, errW_some] <;> rfl), by (with_reducible repeat (first | apply Kd.R_alloc | apply Kd.R_drewN | apply Kd.R_drew)); exact HO271.out, by repeat (first | (with_reducible first | exact HB.out | apply below_alloc | apply pw_below_drewN | apply below_drew1) | exact HB.out)⟩
    · replace c6 := Bool.eq_false_iff.mpr c6
      subst c6
      have H1 : (some (([] : List Int), 1300)) = some (r1, r2) := by rw [if_neg (show ¬ (false = true) by decide)] at H; exact H
      clear H
      have H := H1
      clear H1
      simp only [Option.some.injEq, Prod.mk.injEq] at H
      obtain ⟨rfl, rfl⟩ := H
      go_enter Tryd.func16, Tryd.ntmps16
      go_wp2_with (first | ((with_reducible refine gate_callee (f := 24) rfl ?_); refine goesL_ (some 7) rfl rfl Tryd.func24 (by kernel_rfl) rfl #[.slice A0 l0.length c0] rfl hL_ ?_; (with_reducible refine (sleuthref12_TrailMay.calls k _ _ l0 true _ ?side1 ?side2 A3.out).mono ?_); (case side1 => repeat (first | exact HR0.out | (with_reducible refine Kd.C_alloc ?_ _) | (with_reducible refine Kd.C_drewN ?_ _) | (with_reducible refine Kd.C_drew ?_))); (case side2 => exact HC0.out); rintro e w10 ⟨rfl, hb⟩; refine ⟨_, rfl, ?_⟩; have n0_ := Aside0.mk (below_step hB_ hb); clear HB; have HB := n0_; clear n0_; (try clear hb); (try clear hb2); (try clear hk); (try clear hi)) | (go_at_call 35; (with_reducible refine (sleuthref12_upTo.calls a1 0 (wrap64 ((l0.length : Int) - 1)) false _ A5.out).mono ?_); rintro e w' ⟨rfl, ⟨nd, rfl⟩⟩))
      go_ret2
      exact ⟨_, by first | rfl | (simp [errW_none, errW_some] <;> rfl) | (simp [*, errW_none, errW_some] <;> rfl), by first | exact Kd.R_nil _ _ _ _ _ | exact Kd.N_nil _ _ _ _ _ | exact Kd.V_nil _ _ _ _ _ | exact Kd.Q_nil _ _ _ _ _ | exact Kd.S_nil _ _ _ _ _, by repeat (first | (with_reducible first | exact HB.out | apply below_alloc | apply pw_below_drewN | apply below_drew1) | exact HB.out)⟩
  · replace c4 := Bool.eq_false_iff.mpr c4
    subst c4
    have H1 : (some (([] : List Int), 1300)) = some (r1, r2) := by rw [if_neg (show ¬ (false = true) by decide)] at H; exact H
    clear H
    have H := H1
    clear H1
    simp only [Option.some.injEq, Prod.mk.injEq] at H
    obtain ⟨rfl, rfl⟩ := H
    go_enter Tryd.func16, Tryd.ntmps16
    go_wp2_with (first | ((with_reducible refine gate_callee (f := 24) rfl ?_); refine goesL_ (some 7) rfl rfl Tryd.func24 (by kernel_rfl) rfl #[.slice A0 l0.length c0] rfl hL_ ?_; (with_reducible refine (sleuthref12_TrailMay.calls k _ _ l0 false _ ?side1 ?side2 A3.out).mono ?_); (case side1 => repeat (first | exact HR0.out | (with_reducible refine Kd.C_alloc ?_ _) | (with_reducible refine Kd.C_drewN ?_ _) | (with_reducible refine Kd.C_drew ?_))); (case side2 => exact HC0.out); rintro e w11 ⟨rfl, hb⟩; refine ⟨_, rfl, ?_⟩; have n0_ := Aside0.mk (below_step hB_ hb); clear HB; have HB := n0_; clear n0_; (try clear hb); (try clear hb2); (try clear hk); (try clear hi)))
    go_ret2
    exact ⟨_, by first | rfl | (simp [errW_none, errW_some] <;> rfl) | (simp [*, errW_none, errW_some] <;> rfl), by first | exact Kd.R_nil _ _ _ _ _ | exact Kd.N_nil _ _ _ _ _ | exact Kd.V_nil _ _ _ _ _ | exact Kd.Q_nil _ _ _ _ _ | exact Kd.S_nil _ _ _ _ _, by repeat (first | (with_reducible first | exact HB.out | apply below_alloc | apply pw_below_drewN | apply below_drew1) | exact HB.out)⟩

end Go.Proofs.YtgcdbpnflchobaaDoor.G
end
section
-- Laid by the session's own driver gp.py over the kit's printer. Not trusted: Lean checks it.
namespace Go.Proofs.YtgcdbpnflchobaaDoor.G
open Go.RowKit Go.Proofs.YtgcdbpnflchobaaDoorW.PrintWords Go.Proofs.YtgcdbpnflchobaaDoorW.PrintLast Go.Proofs.YtgcdbpnflchobaaDoorW.PrintMore
attribute [local go_sem] max2_int min2_int max_two min_two max_three min_three max_four min_four   -- for this text's walks alone
set_option linter.unusedVariables false
set_option linter.unusedSimpArgs false

/-! ### tree_Sizes: function 37, given -/
/-- what the program does, from the last node on -/
def sizesL (ns : List S44) (c : Int → Int) : Nat → List Int → List Int
  | 0, o => o
  | n + 1, o =>
    let o1 := o.set n (wrap64 (rd o (n : Int) + c (n : Int)))
    sizesL ns c n (if 0 < n then o1.set ((rd_T44 ns (n : Int)).f1).toNat (wrap64 (rd o1 (rd_T44 ns (n : Int)).f1 + rd o1 (n : Int))) else o1)
def sizesP (ns : List S44) (c : Int → Int) : List Int := sizesL ns c ns.length (List.replicate ns.length 0)
theorem sizesL_len (ns : List S44) (c : Int → Int) : ∀ (n : Nat) (o : List Int), (sizesL ns c n o).length = o.length
  | 0, _ => rfl
  | n + 1, o => by
    rw [sizesL, sizesL_len ns c n]
    split <;> simp
theorem infoIntS : (Tryd.prog.info? 3).map (fun i => (i.zero, i.size, i.bytes)) = some (some (.int .i64 0), 1, 8) := by kernel_rfl
section
attribute [local go_sem] Oper.semAt_some
set_option maxRecDepth 100000 in
set_option maxHeartbeats 8000000 in
theorem tree_Sizes.in_ (n : Nat) (hn : 2 ≤ n) (g : Nat) (lb : Array Value) (eg : ∀ args w, (callFunc g args).run Tryd.prog w = .ok (.enter g args) w) (c : Int → Int) (A0 : Option Addr) (c0 : Nat) (l0 : List S44) (h512 : l0.length ≤ 512)
    (hP : ∀ i : Int, 0 ≤ i → i < (l0.length : Int) → ((0 ≤ (rd_T44 l0 i).f1 ∧ (rd_T44 l0 i).f1 < i) ∨ (i = 0 ∧ (rd_T44 l0 i).f1 = -1))) (w : World) (hC : Kd.C k44 w A0 l0.length l0)
    (hc : ∀ (i : Int) (W : World), 0 ≤ i → i < (l0.length : Int) → Below w.heap.size w W → Calls Tryd.prog g (#[.int .i64 i] ++ lb) W fun e W' => e = .returned (.int .i64 (c i)) ∧ ∃ m, W' = W.drewN m) :
    CallsIn Fence.wide n Tryd.prog 37 #[.slice A0 l0.length c0, .func (.func g) #[] lb] w fun e w' => ∃ v, e = .returned v ∧ (Kd.int .i64).R 3 w' w.heap.size (fun _ => True) v (sizesP l0 c) ∧ Below w.heap.size w w' := by
  have HC := Aside0.mk hC
  have HCC := Aside0.mk hc
  have HPP := Aside0.mk hP
  clear hC hc hP
  have ffg : Fence.wide.fn g := trivial
  have hmk := print_make_of (P := Tryd.prog) 24 3 (.int .i64 0) 8 Tryd.underlying24 infoIntS rfl (by omega) l0.length (by omega)
  have hmix : Tryd.prog.follows .mixedOrders = true := by kernel_rfl
  refine callsIn_of_wp Tryd.func37 rfl trivial ?_ rfl
  simp only [Tryd.ntmps37, List.size_toArray, List.length_cons, List.length_nil, Nat.reduceAdd, Nat.reduceSub, Array.replicate_succ, Array.replicate_zero, List.push_toArray, List.append_toArray, List.nil_append, List.cons_append]
  have HO := Aside0.mk (own_made_of (enc := Value.int .i64) (d := (0 : Int)) w w.heap.size 3 l0.length (Nat.le_refl _) (by omega))
  gi_wp2
  gi_loopw [6] (fun v wr => ∃ x : Int, v = .int .i64 x ∧ Aside0 (-1 ≤ x ∧ x < (l0.length : Int)) ∧ Aside0 (∃ o : List Int, o.length = l0.length ∧ wr.ownsRow w.heap.size 3 1 (.slice (some ⟨w.heap.size, 0, none⟩) l0.length l0.length) l0.length (encs (Value.int .i64) o) ∧ sizesL l0 c (x + 1).toNat o = sizesP l0 c) ∧ Aside0 (Below w.heap.size w wr))
    (fun v _ => (intOf v + 1).toNat)
  case atStart =>
    exact ⟨(l0.length : Int) - 1, by first | rfl | (congr 1; omega) | (simp; omega), ⟨by omega, by omega⟩, ⟨List.replicate l0.length 0, by simp, HO.out, by rw [show ((l0.length : Int) - 1 + 1).toNat = l0.length by omega]; rfl⟩, ⟨(Below.refl _ w).alloc (Nat.le_refl _) _⟩⟩
  case round =>
    obtain ⟨x, rfl, HX, HJ, HB⟩ := hrel
    clear hmk
    by_cases hx : 0 ≤ x
    · have hxb := decide_eq_true hx
      have hlt : x < (l0.length : Int) := HX.out.2
      obtain ⟨o, ho, hrow, hsz⟩ := HJ.out
      obtain ⟨hcx, hfx⟩ := own_at_of (d := (0 : Int)) hrow x hx hlt
      have HR := Aside0.mk (And.intro ho (And.intro hrow (And.intro hsz hx)))
      clear ho hrow hsz
      replace hlt := eq_true hlt
      replace hx := eq_true hx
      have HQ := Aside0.mk (fun k => HCC.out x (wr.drewN k) (of_eq_true hx) (of_eq_true hlt) (below_dn HB.out k))
      gi_wp2
      refine wpIn_region_head 9 rfl hmix (by kernel_rfl) ?_
      simp only [List.take_succ_cons, List.take_zero, List.drop_succ_cons, List.drop_zero]
      iterate 6 (quiet_step_in (fail))
      quiet_step_in (exact ⟨fun _ => by omega, CallsIn.quiet_of (callsIn_wide.2 (HQ.out _))⟩)
      iterate 2 (quiet_step_in (fail))
      refine wpQuietIn_nil ?_
      intro _ hw'
      obtain ⟨nq, hw''⟩ := hw'
      subst hw''
      by_cases hx1 : 0 < x
      · have hx1b := decide_eq_true hx1
        gi_wp2
        obtain ⟨ho, hrow, hsz, _⟩ := HR.out
        have hst := (own_store_of (enc := Value.int .i64) (W := wr.drewN nq) hrow x (wrap64 (rdOf 0 o x + c x))).1
        have hb2 : Below w.heap.size w ((wr.drewN nq).setCell ⟨w.heap.size, x.toNat, none⟩ (Value.int .i64 (wrap64 (rdOf 0 o x + c x)))) := (below_dn HB.out nq).setCell (p := ⟨w.heap.size, x.toNat, none⟩) (Nat.le_refl _) _
        obtain ⟨W2, hW2⟩ : ∃ W2, (wr.drewN nq).setCell ⟨w.heap.size, x.toNat, none⟩ (Value.int .i64 (wrap64 (rdOf 0 o x + c x))) = W2 := ⟨_, rfl⟩
        obtain ⟨o1, ho1⟩ : ∃ o1, o1 = o.set x.toNat (wrap64 (rdOf 0 o x + c x)) := ⟨_, rfl⟩
        rw [hW2] at hst hb2 ⊢
        rw [← ho1] at hst
        have hX := HR.out.2.2.2
        have hpx := HPP.out x hX (of_eq_true hlt)
        obtain ⟨ad, A2, c2, e0, g0, g1, g2, g3, hl2, hi2⟩ := at_T44 HC.out x hX (of_eq_true hlt)
        cases e0
        replace g1 := (hb2.cell (World.block_lt_of_cell? w _ g1)).trans g1
        have hp0 : 0 ≤ (rd_T44 l0 x).f1 := by omega
        have hp1 : (rd_T44 l0 x).f1 < (l0.length : Int) := by have := of_eq_true hlt; omega
        obtain ⟨hc1, hf1⟩ := own_at_of (d := (0 : Int)) hst x hX (of_eq_true hlt)
        obtain ⟨hc2, hf2⟩ := own_at_of (d := (0 : Int)) hst (rd_T44 l0 x).f1 hp0 hp1
        have HS := Aside0.mk (And.intro hst (And.intro hb2 (And.intro ho1 (And.intro hp0 (And.intro hp1 hx1)))))
        clear hst hb2 hW2 ho1 hpx g0 g2 g3 hl2 hi2 hcx hfx ho hrow hsz hX hx1 hx1b
        replace hp0 := eq_true hp0
        replace hp1 := eq_true hp1
        refine wpIn_region_head 14 rfl hmix (by kernel_rfl) ?_
        simp only [List.take_succ_cons, List.take_zero, List.drop_succ_cons, List.drop_zero]
        iterate 14 (quiet_step_in (fail))
        refine wpQuietIn_nil ?_
        intro _ hw'
        obtain ⟨nq2, hw''⟩ := hw'
        subst hw''
        gi_wp2
        obtain ⟨hst, hb2, ho1, hp0', hp1', hx1'⟩ := HS.out
        obtain ⟨ho, hrow, hsz, hX⟩ := HR.out
        have hw1 : wrap64 (x - 1) = x - 1 := by have := HX.out; unfold wrap64; omega
        rw [hw1]
        refine ⟨⟨x - 1, rfl, ⟨by omega, by have := HX.out; omega⟩, ⟨_, by rw [List.length_set, ho1, List.length_set]; exact ho, (own_store_of (enc := Value.int .i64) (W := W2.drewN nq2) hst (rd_T44 l0 x).f1 _).1, ?_⟩, ⟨(below_dn hb2 nq2).setCell (p := ⟨w.heap.size, (rd_T44 l0 x).f1.toNat, none⟩) (Nat.le_refl _) _⟩⟩, by simp only [intOf]; omega⟩
        rw [← hsz, show (x + 1).toNat = x.toNat + 1 by omega, show (x - 1 + 1).toNat = x.toNat by omega, sizesL]
        simp only [show ((x.toNat : Nat) : Int) = x by omega]
        rw [if_pos (show 0 < x.toNat by omega), ho1]
        rfl
      · have hx1b := decide_eq_false hx1
        gi_wp2
        obtain ⟨ho, hrow, hsz, hX⟩ := HR.out
        have hst := (own_store_of (enc := Value.int .i64) (W := wr.drewN nq) hrow x (wrap64 (rdOf 0 o x + c x))).1
        have hb2 : Below w.heap.size w ((wr.drewN nq).setCell ⟨w.heap.size, x.toNat, none⟩ (Value.int .i64 (wrap64 (rdOf 0 o x + c x)))) := (below_dn HB.out nq).setCell (p := ⟨w.heap.size, x.toNat, none⟩) (Nat.le_refl _) _
        obtain rfl : x = 0 := by omega
        rw [show wrap64 ((0 : Int) - 1) = -1 from by unfold wrap64; omega]
        refine ⟨⟨-1, rfl, ⟨by omega, by omega⟩, ⟨_, by simpa using ho, hst, ?_⟩, ⟨hb2⟩⟩, by decide⟩
        rw [← hsz]
        rfl
    · have hxb := decide_eq_false hx
      have HN := Aside0.mk hx
      clear hx
      gi_wp2
      go_ret
      obtain ⟨o, ho, hrow, hsz⟩ := HJ.out
      rw [show (x + 1).toNat = 0 by have := HX.out; have := HN.out; omega, sizesL] at hsz
      subst hsz
      exact ⟨_, rfl, Kd.R_of_own (by rw [ho]; exact hrow) (fun _ _ => trivial), HB.out⟩
end

end Go.Proofs.YtgcdbpnflchobaaDoor.G
end
section
-- Laid by the session's own driver gp.py over the kit's printer. Not trusted: Lean checks it.
namespace Go.Proofs.YtgcdbpnflchobaaDoor.G
open Go.RowKit Go.Proofs.YtgcdbpnflchobaaDoorW.PrintWords Go.Proofs.YtgcdbpnflchobaaDoorW.PrintLast Go.Proofs.YtgcdbpnflchobaaDoorW.PrintMore
attribute [local go_sem] max2_int min2_int max_two min_two max_three min_three max_four min_four   -- for this text's walks alone
set_option linter.unusedVariables false
set_option linter.unusedSimpArgs false

/-! ### tree_Size: function 17, given -/
def tree_Size.f (k : Nat) (l0 : List S44) (a1 : Int) : Option (Int × Int) := (tree_there.f k l0 a1).bind fun t => if t = true then some (rd (sizesP l0 (fun _ => 1)) a1, 0) else some (0, 1300)
theorem tree_Size.mono : ∀ a0 a1 k, LeO (tree_Size.f k a0 a1) (tree_Size.f (k + 1) a0 a1) := by
  intro a0 a1 k
  unfold tree_Size.f
  exact LeO.bind (tree_there.mono _ _ _) (fun _ => LeO.refl _)
theorem sizeOne_calls (i : Int) (W : World) : Calls Tryd.prog 38 #[.int .i64 i] W fun e W' => e = .returned (.int .i64 1) ∧ ∃ m, W' = W.drewN m := by
  have h : Calls Tryd.prog 38 #[.int .i64 i] W fun e W' => e = .returned (.int .i64 1) ∧ W' = W := by
    go_enter Tryd.func38, Tryd.ntmps38
    go_wp2
    go_ret
    exact ⟨rfl, rfl⟩
  exact h.mono fun e W' ⟨h1, h2⟩ => ⟨h1, 0, h2⟩
theorem sizes_calls (A0 : Option Addr) (c0 : Nat) (l0 : List (S44)) (a1 : Int) (h0 : 0 ≤ a1) (h1 : a1 < (l0.length : Int)) (h512 : l0.length ≤ 512) (hP : ∀ i : Int, 0 ≤ i → i < (l0.length : Int) → ((0 ≤ (rd_T44 l0 i).f1 ∧ (rd_T44 l0 i).f1 < i) ∨ (i = 0 ∧ (rd_T44 l0 i).f1 = -1)))
    (w w6 : World) (hC : Kd.C k44 w A0 l0.length l0) (hB : Below w.heap.size w w6) :
    Calls Tryd.prog 37 #[.slice A0 l0.length c0, .func (.func 38) #[] #[]] w6 fun e w' => ∃ ad c, e = .returned (.slice (some ad) l0.length c) ∧ w'.cell? (ad.add a1.toNat) = some (.int .i64 (rd (sizesP l0 (fun _ => 1)) a1)) ∧ Below w.heap.size w w' := by
  refine ((callsIn_wide (n := 2)).1 (tree_Sizes.in_ 2 (by omega) 38 #[] (enters_of Tryd.func38 (by kernel_rfl) rfl) (fun _ => 1) A0 c0 l0 h512 hP w6 (Kd.C_below hC hB) (fun i W _ _ _ => sizeOne_calls i W))).mono ?_
  rintro e w' ⟨v, rfl, hr, hb⟩
  obtain ⟨A, c, rfl, hl, hC'⟩ := Kd.R_reads hr
  have hlen : (sizesP l0 (fun _ => 1)).length = l0.length := by unfold sizesP; rw [sizesL_len, List.length_replicate]
  obtain ⟨ad, e9, hx⟩ := Kd.at_int hC' a1 h0 (by rw [hlen]; exact h1)
  cases e9
  exact ⟨ad, c, by rw [hlen], hx, hB.trans (hb.mono hB.size)⟩
set_option maxHeartbeats 8000000 in
set_option maxRecDepth 100000 in
theorem tree_Size.calls (k : Nat) (A0 : Option Addr) (c0 : Nat) (l0 : List (S44)) (a1 : Int) (r1 : Int) (r2 : Int) (w : World) (hr0 : Kd.C k44 w A0 l0.length l0) (hc0 : l0.length ≤ c0) (h : tree_Size.f k l0 a1 = some (r1, r2)) (hG : GOK w) :
    Calls Tryd.prog 17 #[.slice A0 l0.length c0, .int .i64 a1] w fun e w' => e = .returned (.tuple #[.int .i64 r1, .int .i64 r2]) ∧ Below w.heap.size w w' := by
  have HR0 := Aside0.mk hr0
  have HC0 := Aside0.mk hc0
  clear hr0 hc0
  have HB := Aside0.mk (Below.refl w.heap.size w)
  unfold tree_Size.f at h
  obtain ⟨t, A1, h⟩ := Option.bind_eq_some_iff.mp h
  have HA := Aside0.mk A1
  clear A1
  cases t with
  | true =>
    rw [if_pos rfl] at h
    have hp := Prod.mk.inj (Option.some.inj h)
    obtain rfl : r2 = 0 := hp.2.symm
    have HP := Aside0.mk hp.1
    clear h hp
    have hT : trail_May.f k l0 = some true ∧ 0 ≤ a1 ∧ a1 < (l0.length : Int) := by
      have h := HA.out
      unfold tree_there.f at h
      obtain ⟨t, h1, h⟩ := Option.bind_eq_some_iff.mp h
      cases t with
      | false => simp at h
      | true =>
        rw [if_pos rfl] at h
        by_cases c : a1 ≥ 0
        · rw [if_pos c] at h
          exact ⟨h1, c, of_decide_eq_true (Option.some.inj h)⟩
        · rw [if_neg c] at h; simp at h
    have hM := trail_May.true_spec hT.1
    have HT := Aside0.mk (And.intro hT hM)
    have p1 := eq_true hT.2.1
    have p2 := eq_true hT.2.2
    clear hT hM
    go_enter Tryd.func17, Tryd.ntmps17
    go_wp2_with (first
      | (go_at_call 32; (with_reducible refine (tree_there.calls k _ _ l0 a1 true _ HR0.out HC0.out HA.out (by first | exact hG)).mono ?_); rintro e w6 ⟨rfl, hb⟩; have n1_ := Aside0.mk (below_step (by repeat (first | exact HB.out | apply below_alloc | apply pw_below_drewN | apply below_drew1)) hb); clear HB hb; have HB := n1_; clear n1_)
      | (go_at_call 37; (with_reducible refine (sizes_calls A0 c0 l0 a1 HT.out.1.2.1 HT.out.1.2.2 HT.out.2.2.1 HT.out.2.2.2 w _ HR0.out HB.out).mono ?_); rintro e w8 ⟨ad8, c8, rfl, hx8, hb⟩; have HR8 := Aside0.mk hb; clear hb))
    go_ret2
    exact ⟨by rw [← HP.out]; rfl, HR8.out⟩
  | false =>
    rw [if_neg (by decide)] at h
    have hp := Prod.mk.inj (Option.some.inj h)
    obtain rfl : r2 = 1300 := hp.2.symm
    obtain rfl : r1 = 0 := hp.1.symm
    clear h hp
    go_enter Tryd.func17, Tryd.ntmps17
    go_wp2_with (first
      | (go_at_call 32; (with_reducible refine (tree_there.calls k _ _ l0 a1 false _ HR0.out HC0.out HA.out (by first | exact hG)).mono ?_); rintro e w6 ⟨rfl, hb⟩; have n1_ := Aside0.mk (below_step (by repeat (first | exact HB.out | apply below_alloc | apply pw_below_drewN | apply below_drew1)) hb); clear HB hb; have HB := n1_; clear n1_))
    go_ret2
    exact ⟨rfl, by repeat (first | exact HB.out | apply below_alloc | apply pw_below_drewN | apply below_drew1)⟩

end Go.Proofs.YtgcdbpnflchobaaDoor.G
end
section
-- Laid by the session's own driver gp.py over the kit's printer. Not trusted: Lean checks it.
namespace Go.Proofs.YtgcdbpnflchobaaDoor.G
open Go.RowKit Go.Proofs.YtgcdbpnflchobaaDoorW.PrintWords Go.Proofs.YtgcdbpnflchobaaDoorW.PrintLast Go.Proofs.YtgcdbpnflchobaaDoorW.PrintMore
attribute [local go_sem] max2_int min2_int max_two min_two max_three min_three max_four min_four   -- for this text's walks alone
set_option linter.unusedVariables false
set_option linter.unusedSimpArgs false

/-! ### sleuthref12_Size: function 18 -/
mutual
def sleuthref12_Size.j0 : Nat → List (S44) → Int → Bool → Option (Int × Int)
  | 0, _, _, _ => none
  | k + 1, x0, x1, x19 => if x19 = true then (some (0, 1300)) else (if 0 ≤ (x0.length : Int) then (if ((x0.length : Int) : Int).toNat ≤ 281474976710656 then (sleuthref12_Size.l0 k x0 x1 (List.replicate ((x0.length : Int) : Int).toNat false) 0 x1) else (none)) else (none))
def sleuthref12_Size.l0 : Nat → List (S44) → Int → List Bool → Int → Int → Option (Int × Int)
  | 0, _, _, _, _, _ => none
  | k + 1, x0, x1, x6, x7, x8 => if x8 < (x0.length : Int) then (if x8 = x1 then (if 0 ≤ x8 then (if x8 < (x6.length : Int) then ((some (x6.set (x8 : Int).toNat true : List Bool)).bind fun y277 => (if rdOf false y277 x8 = true then (sleuthref12_Size.l0 k x0 x1 y277 (wrap64 (x7 + 1)) (wrap64 (x8 + 1))) else (sleuthref12_Size.l0 k x0 x1 y277 x7 (wrap64 (x8 + 1))))) else (none)) else (none)) else (if 0 ≤ x8 then (if ((rd_T44 x0 x8).f1) ≥ 0 then (if 0 ≤ ((rd_T44 x0 x8).f1) then (if ((rd_T44 x0 x8).f1) < (x6.length : Int) then (if x8 < (x6.length : Int) then ((some (x6.set (x8 : Int).toNat (rdOf false x6 ((rd_T44 x0 x8).f1)) : List Bool)).bind fun y282 => (if rdOf false y282 x8 = true then (sleuthref12_Size.l0 k x0 x1 y282 (wrap64 (x7 + 1)) (wrap64 (x8 + 1))) else (sleuthref12_Size.l0 k x0 x1 y282 x7 (wrap64 (x8 + 1))))) else (none)) else (none)) else (none)) else (if x8 < (x6.length : Int) then ((some (x6.set (x8 : Int).toNat false : List Bool)).bind fun y284 => (if rdOf false y284 x8 = true then (sleuthref12_Size.l0 k x0 x1 y284 (wrap64 (x7 + 1)) (wrap64 (x8 + 1))) else (sleuthref12_Size.l0 k x0 x1 y284 x7 (wrap64 (x8 + 1))))) else (none))) else (none))) else (some (x7, 0))
end
def sleuthref12_Size.f (k : Nat) (l0 : List (S44)) (a1 : Int) : Option (Int × Int) := (sleuthref12_TrailMay.f k l0).bind fun t272 => (if t272 = true then ((sleuthref12_upTo.f a1 0 (wrap64 ((l0.length : Int) - 1))).bind fun t273 => (sleuthref12_Size.j0 k l0 a1 (!t273))) else (sleuthref12_Size.j0 k l0 a1 true))
theorem sleuthref12_Size.mono_l : ∀ k, (∀ y0 y1 y2, LeO (sleuthref12_Size.j0 k y0 y1 y2) (sleuthref12_Size.j0 (k + 1) y0 y1 y2)) ∧ (∀ y0 y1 y2 y3 y4, LeO (sleuthref12_Size.l0 k y0 y1 y2 y3 y4) (sleuthref12_Size.l0 (k + 1) y0 y1 y2 y3 y4))
  | 0 => ⟨fun _ _ _ r h => by simp [sleuthref12_Size.j0] at h, fun _ _ _ _ _ r h => by simp [sleuthref12_Size.l0] at h⟩
  | k + 1 => by
    obtain ⟨ih0, ih1⟩ := sleuthref12_Size.mono_l k
    refine ⟨?_, ?_⟩
    · intro y0 y1 y2
      unfold sleuthref12_Size.j0
      repeat' first
      | (with_reducible exact ih0 _ _ _)
      | (with_reducible exact ih1 _ _ _ _ _)
      | (with_reducible exact sleuthref12_TrailMay.mono _ _)
      | (with_reducible exact LeO.refl _)
      | (with_reducible exact LeO.none _)
      | (with_reducible refine LeO.ite ?_ ?_)
      | (with_reducible refine LeO.bind ?_ (fun _ => ?_))
      | exact ih0 _ _ _
      | exact ih1 _ _ _ _ _
      | exact sleuthref12_TrailMay.mono _ _
      | exact LeO.none _
      | refine LeO.ite ?_ ?_
      | refine LeO.bind ?_ (fun _ => ?_)
    · intro y0 y1 y2 y3 y4
      unfold sleuthref12_Size.l0
      repeat' first
      | (with_reducible exact ih0 _ _ _)
      | (with_reducible exact ih1 _ _ _ _ _)
      | (with_reducible exact sleuthref12_TrailMay.mono _ _)
      | (with_reducible exact LeO.refl _)
      | (with_reducible exact LeO.none _)
      | (with_reducible refine LeO.ite ?_ ?_)
      | (with_reducible refine LeO.bind ?_ (fun _ => ?_))
      | exact ih0 _ _ _
      | exact ih1 _ _ _ _ _
      | exact sleuthref12_TrailMay.mono _ _
      | exact LeO.none _
      | refine LeO.ite ?_ ?_
      | refine LeO.bind ?_ (fun _ => ?_)
theorem sleuthref12_Size.mono : ∀ a0 a1 k, LeO (sleuthref12_Size.f k a0 a1) (sleuthref12_Size.f (k + 1) a0 a1) := by
  intro a0 a1 k
  obtain ⟨ih0, ih1⟩ := sleuthref12_Size.mono_l k
  unfold sleuthref12_Size.f
  repeat' first
      | (with_reducible exact ih0 _ _ _)
      | (with_reducible exact ih1 _ _ _ _ _)
      | (with_reducible exact sleuthref12_TrailMay.mono _ _)
      | (with_reducible exact LeO.refl _)
      | (with_reducible exact LeO.none _)
      | (with_reducible refine LeO.ite ?_ ?_)
      | (with_reducible refine LeO.bind ?_ (fun _ => ?_))
      | exact ih0 _ _ _
      | exact ih1 _ _ _ _ _
      | exact sleuthref12_TrailMay.mono _ _
      | exact LeO.none _
      | refine LeO.ite ?_ ?_
      | refine LeO.bind ?_ (fun _ => ?_)
set_option maxHeartbeats 8000000 in
set_option maxRecDepth 100000 in
theorem sleuthref12_Size.calls (k : Nat) (A0 : Option Addr) (c0 : Nat) (l0 : List (S44)) (a1 : Int) (r1 : Int) (r2 : Int) (w : World) (hr0 : Kd.C k44 w A0 l0.length l0) (hc0 : l0.length ≤ c0) (h : sleuthref12_Size.f k l0 a1 = some (r1, r2)) :
    Calls Tryd.prog 18 #[.slice A0 l0.length c0, .int .i64 a1] w fun e w' => e = .returned (.tuple #[.int .i64 r1, .int .i64 r2]) ∧ Below w.heap.size w w' := by
  have HR0 := Aside0.mk hr0
  have HC0 := Aside0.mk hc0
  clear hr0 hc0
  have HB := Aside0.mk (Below.refl w.heap.size w)
  have H : ((sleuthref12_TrailMay.f k l0).bind fun t272 => (if t272 = true then ((sleuthref12_upTo.f a1 0 (wrap64 ((l0.length : Int) - 1))).bind fun t273 => (sleuthref12_Size.j0 k l0 a1 (!t273))) else (sleuthref12_Size.j0 k l0 a1 true))) = some (r1, r2) := h
  clear h
  have HC3 := Aside0.mk H
  clear H
  go_enter Tryd.func18, Tryd.ntmps18
  go_upto_region 1 with (fail)
  go_cut [19] (fun v19 wc => ∃ (kq : Nat) (x19_2 : Bool), v19 = .bool x19_2 ∧ Aside0 (sleuthref12_Size.j0 kq l0 a1 x19_2 = some (r1, r2)) ∧ Aside0 (kq ≤ k) ∧ Aside0 (Below w.heap.size w wc))
  case first =>
    have H := HC3.out
    clear HC3
    replace H := Option.bind_eq_some_iff.mp H
    obtain ⟨t272, A40, H⟩ := H
    replace H : (if t272 = true then ((sleuthref12_upTo.f a1 0 (wrap64 ((l0.length : Int) - 1))).bind fun t273 => (sleuthref12_Size.j0 k l0 a1 (!t273))) else (sleuthref12_Size.j0 k l0 a1 true)) = some (r1, r2) := H
    have A4 := Aside0.mk A40
    clear A40
    by_cases c5 : t272 = true
    · subst c5
      have H1 : ((sleuthref12_upTo.f a1 0 (wrap64 ((l0.length : Int) - 1))).bind fun t273 => (sleuthref12_Size.j0 k l0 a1 (!t273))) = some (r1, r2) := by rw [if_pos rfl] at H; exact H
      clear H
      have H := H1
      clear H1
      replace H := Option.bind_eq_some_iff.mp H
      obtain ⟨t273, A60, H⟩ := H
      replace H : (sleuthref12_Size.j0 k l0 a1 (!t273)) = some (r1, r2) := H
      have A6 := Aside0.mk A60
      clear A60
      have H' := Aside0.mk H
      clear H
      go_wp2_with (first | ((with_reducible refine gate_callee (f := 24) rfl ?_); refine goesL_ (some 10) rfl rfl Tryd.func24 (by kernel_rfl) rfl #[.slice A0 l0.length c0] rfl hL_ ?_; (with_reducible refine (sleuthref12_TrailMay.calls k _ _ l0 true _ ?side1 ?side2 A4.out).mono ?_); (case side1 => repeat (first | exact (Kd.C_below HR0.out HB.out) | (with_reducible refine Kd.C_alloc ?_ _) | (with_reducible refine Kd.C_drewN ?_ _) | (with_reducible refine Kd.C_drew ?_))); (case side2 => exact HC0.out); rintro e w7 ⟨rfl, hb⟩; refine ⟨_, rfl, ?_⟩; have n0_ := Aside0.mk (below_step hB_ hb); clear HB; have HB := n0_; clear n0_; (try clear hb); (try clear hb2); (try clear hk); (try clear hi)) | (go_at_call 35; (with_reducible refine (sleuthref12_upTo.calls a1 0 (wrap64 ((l0.length : Int) - 1)) t273 _ A6.out).mono ?_); rintro e w' ⟨rfl, ⟨nd, rfl⟩⟩))
      go_meet
      case rel => exact ⟨_, (!t273), (by first | rfl | (simp; done) | (simp [*]; done)), H', ⟨by first | omega | exact Nat.le_refl _⟩, ⟨by repeat (first | (with_reducible first | exact HB.out | apply below_alloc | apply pw_below_drewN | apply below_drew1) | exact HB.out)⟩⟩
    · replace c5 := Bool.eq_false_iff.mpr c5
      subst c5
      have H1 : (sleuthref12_Size.j0 k l0 a1 true) = some (r1, r2) := by rw [if_neg (show ¬ (false = true) by decide)] at H; exact H
      clear H
      have H := H1
      clear H1
      have H' := Aside0.mk H
      clear H
      go_wp2_with (first | ((with_reducible refine gate_callee (f := 24) rfl ?_); refine goesL_ (some 10) rfl rfl Tryd.func24 (by kernel_rfl) rfl #[.slice A0 l0.length c0] rfl hL_ ?_; (with_reducible refine (sleuthref12_TrailMay.calls k _ _ l0 false _ ?side1 ?side2 A4.out).mono ?_); (case side1 => repeat (first | exact (Kd.C_below HR0.out HB.out) | (with_reducible refine Kd.C_alloc ?_ _) | (with_reducible refine Kd.C_drewN ?_ _) | (with_reducible refine Kd.C_drew ?_))); (case side2 => exact HC0.out); rintro e w8 ⟨rfl, hb⟩; refine ⟨_, rfl, ?_⟩; have n0_ := Aside0.mk (below_step hB_ hb); clear HB; have HB := n0_; clear n0_; (try clear hb); (try clear hb2); (try clear hk); (try clear hi)))
      go_meet
      case rel => exact ⟨_, (true), (by first | rfl | (simp; done) | (simp [*]; done)), H', ⟨by first | omega | exact Nat.le_refl _⟩, ⟨by repeat (first | (with_reducible first | exact HB.out | apply below_alloc | apply pw_below_drewN | apply below_drew1) | exact HB.out)⟩⟩
  case rest =>
    clear HC3
    try clear c1
    try clear c2
    try clear p2
    try clear c5
    try clear p6
    obtain ⟨kq, x19_2, rfl, HA, HJ2, HB⟩ := hcut
    cases kq with
    | zero => exact absurd HA.out (by simp [sleuthref12_Size.j0])
    | succ kj2 =>
      have H := HA.out
      clear HA
      simp only [sleuthref12_Size.j0] at H
      by_cases c9 : x19_2 = true
      · subst c9
        have H1 : (some (0, 1300)) = some (r1, r2) := by rw [if_pos rfl] at H; exact H
        clear H
        have H := H1
        clear H1
        simp only [Option.some.injEq, Prod.mk.injEq] at H
        obtain ⟨rfl, rfl⟩ := H
        go_wp2
        go_ret2
        exact ⟨by first | rfl | (simp [errW_none, errW_some] <;> rfl) | (simp [*, errW_none, errW_some] <;> rfl), by repeat (first | (with_reducible first | exact HB.out | apply below_alloc | apply pw_below_drewN | apply below_drew1) | exact HB.out)⟩
      · replace c9 := Bool.eq_false_iff.mpr c9
        subst c9
        have H1 : (if 0 ≤ (l0.length : Int) then (if ((l0.length : Int) : Int).toNat ≤ 281474976710656 then (sleuthref12_Size.l0 kj2 l0 a1 (List.replicate ((l0.length : Int) : Int).toNat false) 0 a1) else (none)) else (none)) = some (r1, r2) := by rw [if_neg (show ¬ (false = true) by decide)] at H; exact H
        clear H
        have H := H1
        clear H1
        by_cases c10 : 0 ≤ (l0.length : Int)
        · rw [if_pos c10] at H
          have c10b0 := eq_true c10
          have c10b1 : decide (0 ≤ (l0.length : Int)) = true := decide_eq_true c10
          clear c10
          by_cases c11 : ((l0.length : Int) : Int).toNat ≤ 281474976710656
          · rw [if_pos c11] at H
            have c11b0 := eq_true c11
            have c11b1 : decide (((l0.length : Int) : Int).toNat ≤ 281474976710656) = true := decide_eq_true c11
            clear c11
            obtain ⟨y274, hy274⟩ : ∃ y_ : List Bool, y_ = (List.replicate ((l0.length : Int) : Int).toNat false) := ⟨_, rfl⟩
            replace H : (sleuthref12_Size.l0 kj2 l0 a1 y274 0 a1) = some (r1, r2) := by first | (rw [hy274]; with_reducible exact H) | (have H2_ := (Option.bind_some _ _).symm.trans H; rw [hy274]; with_reducible exact H2_) | (have H2_ := (Option.bind_some _ _).symm.trans H; with_reducible exact H2_) | with_reducible exact H | (rw [hy274]; exact H) | exact H
            have Ny274 := Aside0.mk hy274
            clear hy274
            have H' := Aside0.mk H
            clear H
            go_wp2_with (first | ((with_reducible refine gate_dst (N := 22) rfl ?_); (try (refine gate_guard (by rfl) ?_; dsimp only)); refine Kd.R_make Kd.bool _ 4 rfl (N := 22) rfl 60 _ _ rfl (l0.length : Int) rfl rfl Tryd.underlying60 (.bool false) 1 info4 rfl (by decide) (by omega) false (ok := fun _ => True) (okp := fun _ => True) rfl (fun _ hk => hk) trivial (of_decide_eq_true hA_) (Nat.le_trans (Nat.mul_le_mul_right _ (of_decide_eq_true hA_ : (l0.length : Int).toNat ≤ 281474976710656)) (by omega)) (Below.refl _ _) (Nat.le_refl _) ?_; intro v275 w12 ho13 hb hg_ hnew_; clear hg_ hnew_; (first | rw [← Ny274.out] at ho13 | (simp only [Int.reduceToNat] at ho13; rw [← Ny274.out] at ho13)); have n0_ := Aside0.mk (Kd.R_lower ho13 hS_); have n1_ := Aside0.mk (below_step hB_ hb); clear HB; have HO276 := n0_; have HB := n1_; clear n0_ n1_; clear hb ho13))
            go_loopg [7, 8] kj2 (fun kq v7 v8 w' => ∃ (x6_2 : List Bool) (x7_2 : Int) (x8_2 : Int), v7 = .int .i64 x7_2 ∧ v8 = .int .i64 x8_2 ∧ Aside0 (sleuthref12_Size.l0 kq l0 a1 x6_2 x7_2 x8_2 = some (r1, r2)) ∧ Aside0 (kq ≤ kj2) ∧ Aside0 (Kd.R Kd.bool 4 w' w.heap.size (fun _ => True) v275 x6_2) ∧ Aside0 (Below w.heap.size w w'))
            case atStart => exact ⟨(y274), (0), (a1), (by first | rfl | (simp; done) | (simp [*]; done)), (by first | rfl | (simp; done) | (simp [*]; done)), H', ⟨Nat.le_refl _⟩, ⟨by (with_reducible repeat (first | apply Kd.R_alloc | apply Kd.R_drewN | apply Kd.R_drew)); exact HO276.out⟩, ⟨by repeat (first | (with_reducible first | exact HB.out | apply below_alloc | apply pw_below_drewN | apply below_drew1) | exact HB.out)⟩⟩
            case round =>
              clear H'
              try clear c1
              try clear c2
              try clear p2
              try clear c5
              try clear p6
              try clear c9
              try clear c10
              try clear c10b0
              try clear c10b1
              try clear c11
              try clear c11b0
              try clear c11b1
              try clear p2
              try clear p6
              obtain ⟨x6_2, x7_2, x8_2, rfl, rfl, HA, HK2, HO_6, HB⟩ := hrel
              cases gk with
              | zero => exact absurd HA.out (by simp [sleuthref12_Size.l0])
              | succ k2 =>
                have H := HA.out
                clear HA
                simp only [sleuthref12_Size.l0] at H
                by_cases c14 : x8_2 < (l0.length : Int)
                · rw [if_pos c14] at H
                  have c14b0 : decide (x8_2 < (l0.length : Int)) = true := decide_eq_true c14
                  clear c14
                  by_cases c15 : x8_2 = a1
                  · rw [if_pos c15] at H
                    have c15b0 : (x8_2 == a1) = true := beq_iff_eq.mpr c15
                    have c15b1 : (x8_2 != a1) = false := bne_eq_false_iff_eq.mpr c15
                    clear c15
                    by_cases c16 : 0 ≤ x8_2
                    · rw [if_pos c16] at H
                      have c16b0 : decide (0 ≤ x8_2) = true := decide_eq_true c16
                      clear c16
                      by_cases c17 : x8_2 < (x6_2.length : Int)
                      · rw [if_pos c17] at H
                        have c17b0 : decide (x8_2 < (x6_2.length : Int)) = true := decide_eq_true c17
                        clear c17
                        obtain ⟨y277, hy277⟩ : ∃ y_ : List Bool, y_ = (x6_2.set (x8_2 : Int).toNat true) := ⟨_, rfl⟩
                        replace H : (if rdOf false y277 x8_2 = true then (sleuthref12_Size.l0 k2 l0 a1 y277 (wrap64 (x7_2 + 1)) (wrap64 (x8_2 + 1))) else (sleuthref12_Size.l0 k2 l0 a1 y277 x7_2 (wrap64 (x8_2 + 1)))) = some (r1, r2) := by first | (rw [hy277]; with_reducible exact H) | (have H2_ := (Option.bind_some _ _).symm.trans H; rw [hy277]; with_reducible exact H2_) | (have H2_ := (Option.bind_some _ _).symm.trans H; with_reducible exact H2_) | with_reducible exact H | (rw [hy277]; exact H) | exact H
                        have Ny277 := Aside0.mk hy277
                        clear hy277
                        obtain ⟨bq19, hbq19⟩ : ∃ b_ : Bool, b_ = (rdOf false y277 x8_2) := ⟨_, rfl⟩
                        replace H : (if bq19 = true then (sleuthref12_Size.l0 k2 l0 a1 y277 (wrap64 (x7_2 + 1)) (wrap64 (x8_2 + 1))) else (sleuthref12_Size.l0 k2 l0 a1 y277 x7_2 (wrap64 (x8_2 + 1)))) = some (r1, r2) := by rw [← hbq19] at H; exact H
                        have Nbq19 := Aside0.mk hbq19
                        clear hbq19
                        by_cases c20 : bq19 = true
                        · subst c20
                          have H1 : (sleuthref12_Size.l0 k2 l0 a1 y277 (wrap64 (x7_2 + 1)) (wrap64 (x8_2 + 1))) = some (r1, r2) := by rw [if_pos rfl] at H; exact H
                          clear H
                          have H := H1
                          clear H1
                          have H' := Aside0.mk H
                          clear H
                          have p18 : 0 ≤ (x8_2 : Int) := of_decide_eq_true hA_
                          have q18 : (x8_2 : Int) < ((x6_2.length : Int) : Int) := of_decide_eq_true hA_
                          obtain ⟨go18, co18, eo18, gb18, gl18, cl18, HG18⟩ := Kd.R_form HO_6.out (by omega)
                          (first | cases eo18 | (injection eo18 with ea_ en_ ec_; (first | subst ea_ | (injection ea_ with ea_; subst ea_)); subst ec_; clear en_))
                          have GB18 := Aside0.mk gb18
                          have GG18 := Aside0.mk HG18
                          clear gb18 gl18 HG18
                          obtain ⟨hx18_0, hf18_0⟩ := Kd.R_celln false HO_6.out (x8_2 : Int) p18 q18
                          replace p18 := eq_true p18
                          replace q18 := eq_true q18
                          have HP21 := Kd.R_putg HO_6.out (x8_2 : Int) true
                          go_wp2_with (first | ((with_reducible refine gate_store (t := 4) (p := 53) rfl ?_); refine store_event (t := 4) (p := 53) (v := ?vo_w22) (w1 := (wr.setCell ⟨go18, (x8_2 : Int).toNat, none⟩ (.bool true))) ?hg ?ho ?hn ?hr ?_; (case ho => rfl); (case hg => rfl); (case hn => rfl); (case hr => first | (go_simp; done) | (go_simp; rfl)); intro w22 hw; have hg : wr.grownBy w22 (some go18) := (by rw [hw]; exact HP21.2); have hp_ : Kd.R Kd.bool 4 w22 w.heap.size (fun _ => True) (.slice (some ⟨go18, 0, none⟩) x6_2.length co18) y277 := (by rw [hw, Ny277.out]; exact HP21.1); clear HP21; have n0_ := Aside0.mk (hp_); have n1_ := Aside0.mk ((by rw [hw]; exact below_set (HB.out) GB18.out : Below w.heap.size w w22)); clear HO_6; clear HB; have HO_6 := n0_; have HB := n1_; clear n0_ n1_; clear hg hw hp_; have p278 : 0 ≤ (x8_2 : Int) := of_decide_eq_true hA_; have q278 : x8_2 < (y277.length : Int) := (by have h_ : (x8_2 : Int) < ((x6_2.length : Int) : Int) := of_decide_eq_true hA_; first | (have e_ := (Kd.R_reads' HO_6.out).1; omega) | simpa only [Ny277.out, List.length_set] using h_); have ql278 : ((x8_2 : Int) < ((x6_2.length : Int) : Int)) = True := eq_true (of_decide_eq_true hA_); obtain ⟨ad278, e278, hx278_0⟩ := Kd.at_bool (Kd.R_reads' HO_6.out).2.2 x8_2 p278 q278; (try rw [← Nbq19.out] at hx278_0); obtain rfl : (⟨go18, 0, none⟩ : Addr) = ad278 := (by injection e278); (first | simp only [add_plain] at hx278_0 | simp only [add_at] at hx278_0 | simp only [Addr.add, Nat.zero_add] at hx278_0 | skip); replace p278 := eq_true p278; replace q278 := eq_true q278))
                          go_roundg k2
                          case measure => have := HJ2.out; have := HK2.out; omega
                          case rel => exact ⟨(y277), (wrap64 (x7_2 + 1)), (wrap64 (x8_2 + 1)), (by first | rfl | (simp; done) | (simp [*]; done)), (by first | rfl | (simp; done) | (simp [*]; done)), H', ⟨by have := HJ2.out; have := HK2.out; omega⟩, ⟨by (with_reducible repeat (first | apply Kd.R_alloc | apply Kd.R_drewN | apply Kd.R_drew)); exact HO_6.out⟩, ⟨by repeat (first | (with_reducible first | exact HB.out | apply below_alloc | apply pw_below_drewN | apply below_drew1) | exact HB.out)⟩⟩
                        · replace c20 := Bool.eq_false_iff.mpr c20
                          subst c20
                          have H1 : (sleuthref12_Size.l0 k2 l0 a1 y277 x7_2 (wrap64 (x8_2 + 1))) = some (r1, r2) := by rw [if_neg (show ¬ (false = true) by decide)] at H; exact H
                          clear H
                          have H := H1
                          clear H1
                          have H' := Aside0.mk H
                          clear H
                          have p18 : 0 ≤ (x8_2 : Int) := of_decide_eq_true hA_
                          have q18 : (x8_2 : Int) < ((x6_2.length : Int) : Int) := of_decide_eq_true hA_
                          obtain ⟨go18, co18, eo18, gb18, gl18, cl18, HG18⟩ := Kd.R_form HO_6.out (by omega)
                          (first | cases eo18 | (injection eo18 with ea_ en_ ec_; (first | subst ea_ | (injection ea_ with ea_; subst ea_)); subst ec_; clear en_))
                          have GB18 := Aside0.mk gb18
                          have GG18 := Aside0.mk HG18
                          clear gb18 gl18 HG18
                          obtain ⟨hx18_0, hf18_0⟩ := Kd.R_celln false HO_6.out (x8_2 : Int) p18 q18
                          replace p18 := eq_true p18
                          replace q18 := eq_true q18
                          have HP23 := Kd.R_putg HO_6.out (x8_2 : Int) true
                          go_wp2_with (first | ((with_reducible refine gate_store (t := 4) (p := 53) rfl ?_); refine store_event (t := 4) (p := 53) (v := ?vo_w24) (w1 := (wr.setCell ⟨go18, (x8_2 : Int).toNat, none⟩ (.bool true))) ?hg ?ho ?hn ?hr ?_; (case ho => rfl); (case hg => rfl); (case hn => rfl); (case hr => first | (go_simp; done) | (go_simp; rfl)); intro w24 hw; have hg : wr.grownBy w24 (some go18) := (by rw [hw]; exact HP23.2); have hp_ : Kd.R Kd.bool 4 w24 w.heap.size (fun _ => True) (.slice (some ⟨go18, 0, none⟩) x6_2.length co18) y277 := (by rw [hw, Ny277.out]; exact HP23.1); clear HP23; have n0_ := Aside0.mk (hp_); have n1_ := Aside0.mk ((by rw [hw]; exact below_set (HB.out) GB18.out : Below w.heap.size w w24)); clear HO_6; clear HB; have HO_6 := n0_; have HB := n1_; clear n0_ n1_; clear hg hw hp_; have p278 : 0 ≤ (x8_2 : Int) := of_decide_eq_true hA_; have q278 : x8_2 < (y277.length : Int) := (by have h_ : (x8_2 : Int) < ((x6_2.length : Int) : Int) := of_decide_eq_true hA_; first | (have e_ := (Kd.R_reads' HO_6.out).1; omega) | simpa only [Ny277.out, List.length_set] using h_); have ql278 : ((x8_2 : Int) < ((x6_2.length : Int) : Int)) = True := eq_true (of_decide_eq_true hA_); obtain ⟨ad278, e278, hx278_0⟩ := Kd.at_bool (Kd.R_reads' HO_6.out).2.2 x8_2 p278 q278; (try rw [← Nbq19.out] at hx278_0); obtain rfl : (⟨go18, 0, none⟩ : Addr) = ad278 := (by injection e278); (first | simp only [add_plain] at hx278_0 | simp only [add_at] at hx278_0 | simp only [Addr.add, Nat.zero_add] at hx278_0 | skip); replace p278 := eq_true p278; replace q278 := eq_true q278))
                          go_roundg k2
                          case measure => have := HJ2.out; have := HK2.out; omega
                          case rel => exact ⟨(y277), (x7_2), (wrap64 (x8_2 + 1)), (by first | rfl | (simp; done) | (simp [*]; done)), (by first | rfl | (simp; done) | (simp [*]; done)), H', ⟨by have := HJ2.out; have := HK2.out; omega⟩, ⟨by (with_reducible repeat (first | apply Kd.R_alloc | apply Kd.R_drewN | apply Kd.R_drew)); exact HO_6.out⟩, ⟨by repeat (first | (with_reducible first | exact HB.out | apply below_alloc | apply pw_below_drewN | apply below_drew1) | exact HB.out)⟩⟩
                      · rw [if_neg c17] at H
                        exact absurd H (by simp)
                    · rw [if_neg c16] at H
                      exact absurd H (by simp)
                  · rw [if_neg c15] at H
                    have c15b0 : (x8_2 == a1) = false := beq_eq_false_iff_ne.mpr c15
                    have c15b1 : (x8_2 != a1) = true := bne_iff_ne.mpr c15
                    by_cases c25 : 0 ≤ x8_2
                    · rw [if_pos c25] at H
                      have c25b0 : decide (0 ≤ x8_2) = true := decide_eq_true c25
                      clear c25
                      by_cases c26 : ((rd_T44 l0 x8_2).f1) ≥ 0
                      · rw [if_pos c26] at H
                        have c26b0 : decide (0 ≤ ((rd_T44 l0 x8_2).f1)) = true := decide_eq_true c26
                        clear c26
                        by_cases c27 : 0 ≤ ((rd_T44 l0 x8_2).f1)
                        · rw [if_pos c27] at H
                          have c27b0 : decide (0 ≤ ((rd_T44 l0 x8_2).f1)) = true := decide_eq_true c27
                          clear c27
                          by_cases c28 : ((rd_T44 l0 x8_2).f1) < (x6_2.length : Int)
                          · rw [if_pos c28] at H
                            have c28b0 : decide (((rd_T44 l0 x8_2).f1) < (x6_2.length : Int)) = true := decide_eq_true c28
                            clear c28
                            by_cases c29 : x8_2 < (x6_2.length : Int)
                            · rw [if_pos c29] at H
                              have c29b0 : decide (x8_2 < (x6_2.length : Int)) = true := decide_eq_true c29
                              clear c29
                              obtain ⟨y282, hy282⟩ : ∃ y_ : List Bool, y_ = (x6_2.set (x8_2 : Int).toNat (rdOf false x6_2 ((rd_T44 l0 x8_2).f1))) := ⟨_, rfl⟩
                              replace H : (if rdOf false y282 x8_2 = true then (sleuthref12_Size.l0 k2 l0 a1 y282 (wrap64 (x7_2 + 1)) (wrap64 (x8_2 + 1))) else (sleuthref12_Size.l0 k2 l0 a1 y282 x7_2 (wrap64 (x8_2 + 1)))) = some (r1, r2) := by first | (rw [hy282]; with_reducible exact H) | (have H2_ := (Option.bind_some _ _).symm.trans H; rw [hy282]; with_reducible exact H2_) | (have H2_ := (Option.bind_some _ _).symm.trans H; with_reducible exact H2_) | with_reducible exact H | (rw [hy282]; exact H) | exact H
                              have Ny282 := Aside0.mk hy282
                              clear hy282
                              obtain ⟨bq31, hbq31⟩ : ∃ b_ : Bool, b_ = (rdOf false y282 x8_2) := ⟨_, rfl⟩
                              replace H : (if bq31 = true then (sleuthref12_Size.l0 k2 l0 a1 y282 (wrap64 (x7_2 + 1)) (wrap64 (x8_2 + 1))) else (sleuthref12_Size.l0 k2 l0 a1 y282 x7_2 (wrap64 (x8_2 + 1)))) = some (r1, r2) := by rw [← hbq31] at H; exact H
                              have Nbq31 := Aside0.mk hbq31
                              clear hbq31
                              by_cases c32 : bq31 = true
                              · subst c32
                                have H1 : (sleuthref12_Size.l0 k2 l0 a1 y282 (wrap64 (x7_2 + 1)) (wrap64 (x8_2 + 1))) = some (r1, r2) := by rw [if_pos rfl] at H; exact H
                                clear H
                                have H := H1
                                clear H1
                                have H' := Aside0.mk H
                                clear H
                                have p279 : 0 ≤ (x8_2 : Int) := of_decide_eq_true hA_
                                have q279 : x8_2 < (l0.length : Int) := of_decide_eq_true hA_
                                obtain ⟨ad279, A279_2, c279_2, e279, hx279_0, hx279_1, hx279_2, hx279_3, hl279_2, hi279_2⟩ := at_T44 HR0.out x8_2 p279 q279
                                cases e279
                                replace hx279_0 := (HB.out.cell (World.block_lt_of_cell? w _ hx279_0)).trans hx279_0
                                replace hx279_1 := (HB.out.cell (World.block_lt_of_cell? w _ hx279_1)).trans hx279_1
                                replace hx279_2 := (HB.out.cell (World.block_lt_of_cell? w _ hx279_2)).trans hx279_2
                                replace hx279_3 := (HB.out.cell (World.block_lt_of_cell? w _ hx279_3)).trans hx279_3
                                have HR279_2 := Aside0.mk hi279_2
                                have HC279_2 := Aside0.mk hl279_2
                                clear hi279_2 hl279_2
                                replace p279 := eq_true p279
                                replace q279 := eq_true q279
                                have p280 : 0 ≤ (x8_2 : Int) := of_decide_eq_true hA_
                                have q280 : x8_2 < (l0.length : Int) := of_decide_eq_true hA_
                                obtain ⟨ad280, A280_2, c280_2, e280, hx280_0, hx280_1, hx280_2, hx280_3, hl280_2, hi280_2⟩ := at_T44 HR0.out x8_2 p280 q280
                                obtain rfl : ad279 = ad280 := (by injection e280)
                                replace hx280_0 := (HB.out.cell (World.block_lt_of_cell? w _ hx280_0)).trans hx280_0
                                replace hx280_1 := (HB.out.cell (World.block_lt_of_cell? w _ hx280_1)).trans hx280_1
                                replace hx280_2 := (HB.out.cell (World.block_lt_of_cell? w _ hx280_2)).trans hx280_2
                                replace hx280_3 := (HB.out.cell (World.block_lt_of_cell? w _ hx280_3)).trans hx280_3
                                have HR280_2 := Aside0.mk hi280_2
                                have HC280_2 := Aside0.mk hl280_2
                                clear hi280_2 hl280_2
                                replace p280 := eq_true p280
                                replace q280 := eq_true q280
                                have ea_ := Option.some.inj (hx279_2.symm.trans hx280_2)
                                injection ea_ with ea_ en_ ec_
                                subst ea_
                                subst ec_
                                clear en_
                                obtain ⟨Ao33, co33, eo33⟩ := Kd.R_slice HO_6.out
                                subst eo33
                                have p281 : 0 ≤ (((rd_T44 l0 x8_2).f1) : Int) := of_decide_eq_true hA_
                                have q281 : ((rd_T44 l0 x8_2).f1) < (x6_2.length : Int) := of_decide_eq_true hA_
                                obtain ⟨ad281, e281, hx281_0⟩ := Kd.at_bool (Kd.R_reads' HO_6.out).2.2 ((rd_T44 l0 x8_2).f1) p281 q281
                                (try rw [← Nbq31.out] at hx281_0)
                                cases e281
                                replace p281 := eq_true p281
                                replace q281 := eq_true q281
                                have p30 : 0 ≤ (x8_2 : Int) := of_decide_eq_true hA_
                                have q30 : (x8_2 : Int) < ((x6_2.length : Int) : Int) := of_decide_eq_true hA_
                                obtain ⟨go30, co30, eo30, gb30, gl30, cl30, HG30⟩ := Kd.R_form HO_6.out (by omega)
                                (first | cases eo30 | (injection eo30 with ea_ en_ ec_; (first | subst ea_ | (injection ea_ with ea_; subst ea_)); subst ec_; clear en_))
                                have GB30 := Aside0.mk gb30
                                have GG30 := Aside0.mk HG30
                                clear gb30 gl30 HG30
                                (first | simp only [add_plain] at hx281_0 | skip)
                                obtain ⟨hx30_0, hf30_0⟩ := Kd.R_celln false HO_6.out (x8_2 : Int) p30 q30
                                replace p30 := eq_true p30
                                replace q30 := eq_true q30
                                have HP34 := Kd.R_putg HO_6.out (x8_2 : Int) (rdOf false x6_2 ((rd_T44 l0 x8_2).f1))
                                go_wp2_with (first | ((with_reducible refine gate_store (t := 4) (p := 53) rfl ?_); refine store_event (t := 4) (p := 53) (v := ?vo_w35) (w1 := (wr.setCell ⟨go30, (x8_2 : Int).toNat, none⟩ (.bool (rdOf false x6_2 ((rd_T44 l0 x8_2).f1))))) ?hg ?ho ?hn ?hr ?_; (case ho => rfl); (case hg => rfl); (case hn => rfl); (case hr => first | (go_simp; done) | (go_simp; rfl)); intro w35 hw; have hg : wr.grownBy w35 (some go30) := (by rw [hw]; exact HP34.2); have hp_ : Kd.R Kd.bool 4 w35 w.heap.size (fun _ => True) (.slice (some ⟨go30, 0, none⟩) x6_2.length co33) y282 := (by rw [hw, Ny282.out]; exact HP34.1); clear HP34; have n0_ := Aside0.mk (hp_); have n1_ := Aside0.mk ((by rw [hw]; exact below_set (HB.out) GB30.out : Below w.heap.size w w35)); clear HO_6; clear HB; have HO_6 := n0_; have HB := n1_; clear n0_ n1_; clear hg hw hp_; have p283 : 0 ≤ (x8_2 : Int) := of_decide_eq_true hA_; have q283 : x8_2 < (y282.length : Int) := (by have h_ : (x8_2 : Int) < ((x6_2.length : Int) : Int) := of_decide_eq_true hA_; first | (have e_ := (Kd.R_reads' HO_6.out).1; omega) | simpa only [Ny282.out, List.length_set] using h_); have ql283 : ((x8_2 : Int) < ((x6_2.length : Int) : Int)) = True := eq_true (of_decide_eq_true hA_); obtain ⟨ad283, e283, hx283_0⟩ := Kd.at_bool (Kd.R_reads' HO_6.out).2.2 x8_2 p283 q283; (try rw [← Nbq31.out] at hx283_0); obtain rfl : (⟨go30, 0, none⟩ : Addr) = ad283 := (by injection e283); (first | simp only [add_plain] at hx283_0 | simp only [add_at] at hx283_0 | simp only [Addr.add, Nat.zero_add] at hx283_0 | skip); replace p283 := eq_true p283; replace q283 := eq_true q283))
                                go_roundg k2
                                case measure => have := HJ2.out; have := HK2.out; omega
                                case rel => exact ⟨(y282), (wrap64 (x7_2 + 1)), (wrap64 (x8_2 + 1)), (by first | rfl | (simp; done) | (simp [*]; done)), (by first | rfl | (simp; done) | (simp [*]; done)), H', ⟨by have := HJ2.out; have := HK2.out; omega⟩, ⟨by (with_reducible repeat (first | apply Kd.R_alloc | apply Kd.R_drewN | apply Kd.R_drew)); exact HO_6.out⟩, ⟨by repeat (first | (with_reducible first | exact HB.out | apply below_alloc | apply pw_below_drewN | apply below_drew1) | exact HB.out)⟩⟩
                              · replace c32 := Bool.eq_false_iff.mpr c32
                                subst c32
                                have H1 : (sleuthref12_Size.l0 k2 l0 a1 y282 x7_2 (wrap64 (x8_2 + 1))) = some (r1, r2) := by rw [if_neg (show ¬ (false = true) by decide)] at H; exact H
                                clear H
                                have H := H1
                                clear H1
                                have H' := Aside0.mk H
                                clear H
                                have p279 : 0 ≤ (x8_2 : Int) := of_decide_eq_true hA_
                                have q279 : x8_2 < (l0.length : Int) := of_decide_eq_true hA_
                                obtain ⟨ad279, A279_2, c279_2, e279, hx279_0, hx279_1, hx279_2, hx279_3, hl279_2, hi279_2⟩ := at_T44 HR0.out x8_2 p279 q279
                                cases e279
                                replace hx279_0 := (HB.out.cell (World.block_lt_of_cell? w _ hx279_0)).trans hx279_0
                                replace hx279_1 := (HB.out.cell (World.block_lt_of_cell? w _ hx279_1)).trans hx279_1
                                replace hx279_2 := (HB.out.cell (World.block_lt_of_cell? w _ hx279_2)).trans hx279_2
                                replace hx279_3 := (HB.out.cell (World.block_lt_of_cell? w _ hx279_3)).trans hx279_3
                                have HR279_2 := Aside0.mk hi279_2
                                have HC279_2 := Aside0.mk hl279_2
                                clear hi279_2 hl279_2
                                replace p279 := eq_true p279
                                replace q279 := eq_true q279
                                have p280 : 0 ≤ (x8_2 : Int) := of_decide_eq_true hA_
                                have q280 : x8_2 < (l0.length : Int) := of_decide_eq_true hA_
                                obtain ⟨ad280, A280_2, c280_2, e280, hx280_0, hx280_1, hx280_2, hx280_3, hl280_2, hi280_2⟩ := at_T44 HR0.out x8_2 p280 q280
                                obtain rfl : ad279 = ad280 := (by injection e280)
                                replace hx280_0 := (HB.out.cell (World.block_lt_of_cell? w _ hx280_0)).trans hx280_0
                                replace hx280_1 := (HB.out.cell (World.block_lt_of_cell? w _ hx280_1)).trans hx280_1
                                replace hx280_2 := (HB.out.cell (World.block_lt_of_cell? w _ hx280_2)).trans hx280_2
                                replace hx280_3 := (HB.out.cell (World.block_lt_of_cell? w _ hx280_3)).trans hx280_3
                                have HR280_2 := Aside0.mk hi280_2
                                have HC280_2 := Aside0.mk hl280_2
                                clear hi280_2 hl280_2
                                replace p280 := eq_true p280
                                replace q280 := eq_true q280
                                have ea_ := Option.some.inj (hx279_2.symm.trans hx280_2)
                                injection ea_ with ea_ en_ ec_
                                subst ea_
                                subst ec_
                                clear en_
                                obtain ⟨Ao36, co36, eo36⟩ := Kd.R_slice HO_6.out
                                subst eo36
                                have p281 : 0 ≤ (((rd_T44 l0 x8_2).f1) : Int) := of_decide_eq_true hA_
                                have q281 : ((rd_T44 l0 x8_2).f1) < (x6_2.length : Int) := of_decide_eq_true hA_
                                obtain ⟨ad281, e281, hx281_0⟩ := Kd.at_bool (Kd.R_reads' HO_6.out).2.2 ((rd_T44 l0 x8_2).f1) p281 q281
                                (try rw [← Nbq31.out] at hx281_0)
                                cases e281
                                replace p281 := eq_true p281
                                replace q281 := eq_true q281
                                have p30 : 0 ≤ (x8_2 : Int) := of_decide_eq_true hA_
                                have q30 : (x8_2 : Int) < ((x6_2.length : Int) : Int) := of_decide_eq_true hA_
                                obtain ⟨go30, co30, eo30, gb30, gl30, cl30, HG30⟩ := Kd.R_form HO_6.out (by omega)
                                (first | cases eo30 | (injection eo30 with ea_ en_ ec_; (first | subst ea_ | (injection ea_ with ea_; subst ea_)); subst ec_; clear en_))
                                have GB30 := Aside0.mk gb30
                                have GG30 := Aside0.mk HG30
                                clear gb30 gl30 HG30
                                (first | simp only [add_plain] at hx281_0 | skip)
                                obtain ⟨hx30_0, hf30_0⟩ := Kd.R_celln false HO_6.out (x8_2 : Int) p30 q30
                                replace p30 := eq_true p30
                                replace q30 := eq_true q30
                                have HP37 := Kd.R_putg HO_6.out (x8_2 : Int) (rdOf false x6_2 ((rd_T44 l0 x8_2).f1))
                                go_wp2_with (first | ((with_reducible refine gate_store (t := 4) (p := 53) rfl ?_); refine store_event (t := 4) (p := 53) (v := ?vo_w38) (w1 := (wr.setCell ⟨go30, (x8_2 : Int).toNat, none⟩ (.bool (rdOf false x6_2 ((rd_T44 l0 x8_2).f1))))) ?hg ?ho ?hn ?hr ?_; (case ho => rfl); (case hg => rfl); (case hn => rfl); (case hr => first | (go_simp; done) | (go_simp; rfl)); intro w38 hw; have hg : wr.grownBy w38 (some go30) := (by rw [hw]; exact HP37.2); have hp_ : Kd.R Kd.bool 4 w38 w.heap.size (fun _ => True) (.slice (some ⟨go30, 0, none⟩) x6_2.length co36) y282 := (by rw [hw, Ny282.out]; exact HP37.1); clear HP37; have n0_ := Aside0.mk (hp_); have n1_ := Aside0.mk ((by rw [hw]; exact below_set (HB.out) GB30.out : Below w.heap.size w w38)); clear HO_6; clear HB; have HO_6 := n0_; have HB := n1_; clear n0_ n1_; clear hg hw hp_; have p283 : 0 ≤ (x8_2 : Int) := of_decide_eq_true hA_; have q283 : x8_2 < (y282.length : Int) := (by have h_ : (x8_2 : Int) < ((x6_2.length : Int) : Int) := of_decide_eq_true hA_; first | (have e_ := (Kd.R_reads' HO_6.out).1; omega) | simpa only [Ny282.out, List.length_set] using h_); have ql283 : ((x8_2 : Int) < ((x6_2.length : Int) : Int)) = True := eq_true (of_decide_eq_true hA_); obtain ⟨ad283, e283, hx283_0⟩ := Kd.at_bool (Kd.R_reads' HO_6.out).2.2 x8_2 p283 q283; (try rw [← Nbq31.out] at hx283_0); obtain rfl : (⟨go30, 0, none⟩ : Addr) = ad283 := (by injection e283); (first | simp only [add_plain] at hx283_0 | simp only [add_at] at hx283_0 | simp only [Addr.add, Nat.zero_add] at hx283_0 | skip); replace p283 := eq_true p283; replace q283 := eq_true q283))
                                go_roundg k2
                                case measure => have := HJ2.out; have := HK2.out; omega
                                case rel => exact ⟨(y282), (x7_2), (wrap64 (x8_2 + 1)), (by first | rfl | (simp; done) | (simp [*]; done)), (by first | rfl | (simp; done) | (simp [*]; done)), H', ⟨by have := HJ2.out; have := HK2.out; omega⟩, ⟨by (with_reducible repeat (first | apply Kd.R_alloc | apply Kd.R_drewN | apply Kd.R_drew)); exact HO_6.out⟩, ⟨by repeat (first | (with_reducible first | exact HB.out | apply below_alloc | apply pw_below_drewN | apply below_drew1) | exact HB.out)⟩⟩
                            · rw [if_neg c29] at H
                              exact absurd H (by simp)
                          · rw [if_neg c28] at H
                            exact absurd H (by simp)
                        · rw [if_neg c27] at H
                          exact absurd H (by simp)
                      · rw [if_neg c26] at H
                        have c26b0 : decide (0 ≤ ((rd_T44 l0 x8_2).f1)) = false := decide_eq_false c26
                        clear c26
                        by_cases c39 : x8_2 < (x6_2.length : Int)
                        · rw [if_pos c39] at H
                          have c39b0 : decide (x8_2 < (x6_2.length : Int)) = true := decide_eq_true c39
                          clear c39
                          obtain ⟨y284, hy284⟩ : ∃ y_ : List Bool, y_ = (x6_2.set (x8_2 : Int).toNat false) := ⟨_, rfl⟩
                          replace H : (if rdOf false y284 x8_2 = true then (sleuthref12_Size.l0 k2 l0 a1 y284 (wrap64 (x7_2 + 1)) (wrap64 (x8_2 + 1))) else (sleuthref12_Size.l0 k2 l0 a1 y284 x7_2 (wrap64 (x8_2 + 1)))) = some (r1, r2) := by first | (rw [hy284]; with_reducible exact H) | (have H2_ := (Option.bind_some _ _).symm.trans H; rw [hy284]; with_reducible exact H2_) | (have H2_ := (Option.bind_some _ _).symm.trans H; with_reducible exact H2_) | with_reducible exact H | (rw [hy284]; exact H) | exact H
                          have Ny284 := Aside0.mk hy284
                          clear hy284
                          obtain ⟨bq41, hbq41⟩ : ∃ b_ : Bool, b_ = (rdOf false y284 x8_2) := ⟨_, rfl⟩
                          replace H : (if bq41 = true then (sleuthref12_Size.l0 k2 l0 a1 y284 (wrap64 (x7_2 + 1)) (wrap64 (x8_2 + 1))) else (sleuthref12_Size.l0 k2 l0 a1 y284 x7_2 (wrap64 (x8_2 + 1)))) = some (r1, r2) := by rw [← hbq41] at H; exact H
                          have Nbq41 := Aside0.mk hbq41
                          clear hbq41
                          by_cases c42 : bq41 = true
                          · subst c42
                            have H1 : (sleuthref12_Size.l0 k2 l0 a1 y284 (wrap64 (x7_2 + 1)) (wrap64 (x8_2 + 1))) = some (r1, r2) := by rw [if_pos rfl] at H; exact H
                            clear H
                            have H := H1
                            clear H1
                            have H' := Aside0.mk H
                            clear H
                            have p279 : 0 ≤ (x8_2 : Int) := of_decide_eq_true hA_
                            have q279 : x8_2 < (l0.length : Int) := of_decide_eq_true hA_
                            obtain ⟨ad279, A279_2, c279_2, e279, hx279_0, hx279_1, hx279_2, hx279_3, hl279_2, hi279_2⟩ := at_T44 HR0.out x8_2 p279 q279
                            cases e279
                            replace hx279_0 := (HB.out.cell (World.block_lt_of_cell? w _ hx279_0)).trans hx279_0
                            replace hx279_1 := (HB.out.cell (World.block_lt_of_cell? w _ hx279_1)).trans hx279_1
                            replace hx279_2 := (HB.out.cell (World.block_lt_of_cell? w _ hx279_2)).trans hx279_2
                            replace hx279_3 := (HB.out.cell (World.block_lt_of_cell? w _ hx279_3)).trans hx279_3
                            have HR279_2 := Aside0.mk hi279_2
                            have HC279_2 := Aside0.mk hl279_2
                            clear hi279_2 hl279_2
                            replace p279 := eq_true p279
                            replace q279 := eq_true q279
                            have p40 : 0 ≤ (x8_2 : Int) := of_decide_eq_true hA_
                            have q40 : (x8_2 : Int) < ((x6_2.length : Int) : Int) := of_decide_eq_true hA_
                            obtain ⟨go40, co40, eo40, gb40, gl40, cl40, HG40⟩ := Kd.R_form HO_6.out (by omega)
                            (first | cases eo40 | (injection eo40 with ea_ en_ ec_; (first | subst ea_ | (injection ea_ with ea_; subst ea_)); subst ec_; clear en_))
                            have GB40 := Aside0.mk gb40
                            have GG40 := Aside0.mk HG40
                            clear gb40 gl40 HG40
                            obtain ⟨hx40_0, hf40_0⟩ := Kd.R_celln false HO_6.out (x8_2 : Int) p40 q40
                            replace p40 := eq_true p40
                            replace q40 := eq_true q40
                            have HP43 := Kd.R_putg HO_6.out (x8_2 : Int) false
                            go_wp2_with (first | ((with_reducible refine gate_store (t := 4) (p := 53) rfl ?_); refine store_event (t := 4) (p := 53) (v := ?vo_w44) (w1 := (wr.setCell ⟨go40, (x8_2 : Int).toNat, none⟩ (.bool false))) ?hg ?ho ?hn ?hr ?_; (case ho => rfl); (case hg => rfl); (case hn => rfl); (case hr => first | (go_simp; done) | (go_simp; rfl)); intro w44 hw; have hg : wr.grownBy w44 (some go40) := (by rw [hw]; exact HP43.2); have hp_ : Kd.R Kd.bool 4 w44 w.heap.size (fun _ => True) (.slice (some ⟨go40, 0, none⟩) x6_2.length co40) y284 := (by rw [hw, Ny284.out]; exact HP43.1); clear HP43; have n0_ := Aside0.mk (hp_); have n1_ := Aside0.mk ((by rw [hw]; exact below_set (HB.out) GB40.out : Below w.heap.size w w44)); clear HO_6; clear HB; have HO_6 := n0_; have HB := n1_; clear n0_ n1_; clear hg hw hp_; have p285 : 0 ≤ (x8_2 : Int) := of_decide_eq_true hA_; have q285 : x8_2 < (y284.length : Int) := (by have h_ : (x8_2 : Int) < ((x6_2.length : Int) : Int) := of_decide_eq_true hA_; first | (have e_ := (Kd.R_reads' HO_6.out).1; omega) | simpa only [Ny284.out, List.length_set] using h_); have ql285 : ((x8_2 : Int) < ((x6_2.length : Int) : Int)) = True := eq_true (of_decide_eq_true hA_); obtain ⟨ad285, e285, hx285_0⟩ := Kd.at_bool (Kd.R_reads' HO_6.out).2.2 x8_2 p285 q285; (try rw [← Nbq41.out] at hx285_0); obtain rfl : (⟨go40, 0, none⟩ : Addr) = ad285 := (by injection e285); (first | simp only [add_plain] at hx285_0 | simp only [add_at] at hx285_0 | simp only [Addr.add, Nat.zero_add] at hx285_0 | skip); replace p285 := eq_true p285; replace q285 := eq_true q285))
                            go_roundg k2
                            case measure => have := HJ2.out; have := HK2.out; omega
                            case rel => exact ⟨(y284), (wrap64 (x7_2 + 1)), (wrap64 (x8_2 + 1)), (by first | rfl | (simp; done) | (simp [*]; done)), (by first | rfl | (simp; done) | (simp [*]; done)), H', ⟨by have := HJ2.out; have := HK2.out; omega⟩, ⟨by (with_reducible repeat (first | apply Kd.R_alloc | apply Kd.R_drewN | apply Kd.R_drew)); exact HO_6.out⟩, ⟨by repeat (first | (with_reducible first | exact HB.out | apply below_alloc | apply pw_below_drewN | apply below_drew1) | exact HB.out)⟩⟩
                          · replace c42 := Bool.eq_false_iff.mpr c42
                            subst c42
                            have H1 : (sleuthref12_Size.l0 k2 l0 a1 y284 x7_2 (wrap64 (x8_2 + 1))) = some (r1, r2) := by rw [if_neg (show ¬ (false = true) by decide)] at H; exact H
                            clear H
                            have H := H1
                            clear H1
                            have H' := Aside0.mk H
                            clear H
                            have p279 : 0 ≤ (x8_2 : Int) := of_decide_eq_true hA_
                            have q279 : x8_2 < (l0.length : Int) := of_decide_eq_true hA_
                            obtain ⟨ad279, A279_2, c279_2, e279, hx279_0, hx279_1, hx279_2, hx279_3, hl279_2, hi279_2⟩ := at_T44 HR0.out x8_2 p279 q279
                            cases e279
                            replace hx279_0 := (HB.out.cell (World.block_lt_of_cell? w _ hx279_0)).trans hx279_0
                            replace hx279_1 := (HB.out.cell (World.block_lt_of_cell? w _ hx279_1)).trans hx279_1
                            replace hx279_2 := (HB.out.cell (World.block_lt_of_cell? w _ hx279_2)).trans hx279_2
                            replace hx279_3 := (HB.out.cell (World.block_lt_of_cell? w _ hx279_3)).trans hx279_3
                            have HR279_2 := Aside0.mk hi279_2
                            have HC279_2 := Aside0.mk hl279_2
                            clear hi279_2 hl279_2
                            replace p279 := eq_true p279
                            replace q279 := eq_true q279
                            have p40 : 0 ≤ (x8_2 : Int) := of_decide_eq_true hA_
                            have q40 : (x8_2 : Int) < ((x6_2.length : Int) : Int) := of_decide_eq_true hA_
                            obtain ⟨go40, co40, eo40, gb40, gl40, cl40, HG40⟩ := Kd.R_form HO_6.out (by omega)
                            (first | cases eo40 | (injection eo40 with ea_ en_ ec_; (first | subst ea_ | (injection ea_ with ea_; subst ea_)); subst ec_; clear en_))
                            have GB40 := Aside0.mk gb40
                            have GG40 := Aside0.mk HG40
                            clear gb40 gl40 HG40
                            obtain ⟨hx40_0, hf40_0⟩ := Kd.R_celln false HO_6.out (x8_2 : Int) p40 q40
                            replace p40 := eq_true p40
                            replace q40 := eq_true q40
                            have HP45 := Kd.R_putg HO_6.out (x8_2 : Int) false
                            go_wp2_with (first | ((with_reducible refine gate_store (t := 4) (p := 53) rfl ?_); refine store_event (t := 4) (p := 53) (v := ?vo_w46) (w1 := (wr.setCell ⟨go40, (x8_2 : Int).toNat, none⟩ (.bool false))) ?hg ?ho ?hn ?hr ?_; (case ho => rfl); (case hg => rfl); (case hn => rfl); (case hr => first | (go_simp; done) | (go_simp; rfl)); intro w46 hw; have hg : wr.grownBy w46 (some go40) := (by rw [hw]; exact HP45.2); have hp_ : Kd.R Kd.bool 4 w46 w.heap.size (fun _ => True) (.slice (some ⟨go40, 0, none⟩) x6_2.length co40) y284 := (by rw [hw, Ny284.out]; exact HP45.1); clear HP45; have n0_ := Aside0.mk (hp_); have n1_ := Aside0.mk ((by rw [hw]; exact below_set (HB.out) GB40.out : Below w.heap.size w w46)); clear HO_6; clear HB; have HO_6 := n0_; have HB := n1_; clear n0_ n1_; clear hg hw hp_; have p285 : 0 ≤ (x8_2 : Int) := of_decide_eq_true hA_; have q285 : x8_2 < (y284.length : Int) := (by have h_ : (x8_2 : Int) < ((x6_2.length : Int) : Int) := of_decide_eq_true hA_; first | (have e_ := (Kd.R_reads' HO_6.out).1; omega) | simpa only [Ny284.out, List.length_set] using h_); have ql285 : ((x8_2 : Int) < ((x6_2.length : Int) : Int)) = True := eq_true (of_decide_eq_true hA_); obtain ⟨ad285, e285, hx285_0⟩ := Kd.at_bool (Kd.R_reads' HO_6.out).2.2 x8_2 p285 q285; (try rw [← Nbq41.out] at hx285_0); obtain rfl : (⟨go40, 0, none⟩ : Addr) = ad285 := (by injection e285); (first | simp only [add_plain] at hx285_0 | simp only [add_at] at hx285_0 | simp only [Addr.add, Nat.zero_add] at hx285_0 | skip); replace p285 := eq_true p285; replace q285 := eq_true q285))
                            go_roundg k2
                            case measure => have := HJ2.out; have := HK2.out; omega
                            case rel => exact ⟨(y284), (x7_2), (wrap64 (x8_2 + 1)), (by first | rfl | (simp; done) | (simp [*]; done)), (by first | rfl | (simp; done) | (simp [*]; done)), H', ⟨by have := HJ2.out; have := HK2.out; omega⟩, ⟨by (with_reducible repeat (first | apply Kd.R_alloc | apply Kd.R_drewN | apply Kd.R_drew)); exact HO_6.out⟩, ⟨by repeat (first | (with_reducible first | exact HB.out | apply below_alloc | apply pw_below_drewN | apply below_drew1) | exact HB.out)⟩⟩
                        · rw [if_neg c39] at H
                          exact absurd H (by simp)
                    · rw [if_neg c25] at H
                      exact absurd H (by simp)
                · rw [if_neg c14] at H
                  have c14b0 : decide (x8_2 < (l0.length : Int)) = false := decide_eq_false c14
                  clear c14
                  simp only [Option.some.injEq, Prod.mk.injEq] at H
                  obtain ⟨rfl, rfl⟩ := H
                  go_wp2
                  go_ret2
                  exact ⟨by first | rfl | (simp [errW_none, errW_some] <;> rfl) | (simp [*, errW_none, errW_some] <;> rfl), by repeat (first | (with_reducible first | exact HB.out | apply below_alloc | apply pw_below_drewN | apply below_drew1) | exact HB.out)⟩
          · rw [if_neg c11] at H
            exact absurd H (by simp)
        · rw [if_neg c10] at H
          exact absurd H (by simp)

end Go.Proofs.YtgcdbpnflchobaaDoor.G
end
