-- Laid by the session's own driver gp.py over the kit's printer. Not trusted: Lean checks it.
import Derived.Test.YtpbobdgenjhjoaaDoorG0
import Derived.Test.YtpbobdgenjhjoaaDoorU9
import Derived.Test.YtpbobdgenjhjoaaDoorU8
namespace Go.Proofs.YtpbobdgenjhjoaaDoor.G
open Go.RowKit Go.Proofs.YtpbobdgenjhjoaaDoorW.PrintWords Go.Proofs.YtpbobdgenjhjoaaDoorW.PrintLast Go.Proofs.YtpbobdgenjhjoaaDoorW.PrintMore
attribute [local go_sem] max2_int min2_int max_two min_two max_three min_three max_four min_four   -- for this text's walks alone
set_option linter.unusedVariables false
set_option linter.unusedSimpArgs false

attribute [local go_sem high] eqA27
/-! ### sleuthlaw18_TopStill: function 7 -/
def sleuthlaw18_TopStill.l0 : Nat → List (S41) → List Int → Int → List Int → Bool → Int → Option (Bool)
  | 0, _, _, _, _, _, _ => none
  | k + 1, x0, x1, x9, x10, x11, x12 => if x12 > 0 then (if x11 = true then (if 0 ≤ x12 then (if x12 < (x0.length : Int) then (sleuthlaw18_TopStill.l0 k x0 x1 x9 x10 true ((rd_T41 x0 x12).f1)) else (none)) else (none)) else (if 0 ≤ x12 then (if x12 < (x1.length : Int) then (if (rd x1 x12) = 1 then (if x12 < (x0.length : Int) then (sleuthlaw18_TopStill.l0 k x0 x1 x9 x10 true ((rd_T41 x0 x12).f1)) else (none)) else (if (rd x1 x12) = 0 then (if x12 < (x0.length : Int) then (sleuthlaw18_TopStill.l0 k x0 x1 x9 x10 true ((rd_T41 x0 x12).f1)) else (none)) else (if x12 < (x0.length : Int) then (sleuthlaw18_TopStill.l0 k x0 x1 x9 x10 ((rd x1 x12) == 3) ((rd_T41 x0 x12).f1)) else (none)))) else (none)) else (none))) else ((top_Next.f k x0 x1).bind fun bt467 => ((top_Next.f k x0 x10).bind fun bt471 => ((sleuthlaw0_Num.f bt467.2.2).bind fun t475 => (if t475 = 0 then ((sleuthlaw0_Num.f bt471.2.2).bind fun t476 => (if t476 = 0 then (if x11 = true then (if x9 = 0 then (some true) else (some (bt467.1 == bt471.1 && (bt467.2.1 == bt471.2.1)))) else (if 0 < (x1.length : Int) then (if (rd x1 0) = 2 then (some true) else (if x9 = 0 then (some true) else (some (bt467.1 == bt471.1 && (bt467.2.1 == bt471.2.1))))) else (none))) else (none))) else (none)))))
def sleuthlaw18_TopStill.f (k : Nat) (l0 : List (S41)) (l1 : List Int) (a2 : Int) (a3 : Int) : Option (Bool) := (sleuthlaw18_awake.f k).bind fun t450 => (if t450 = true then ((sleuthref12_MarksMay.f k l0 l1).bind fun t451 => (if t451 = true then (if (IntKind.u64.wrap ((l0.length : Int))) = 0 then (none) else ((some (([] : List Int) : List Int)).bind fun y452 => (if y452.length + l1.length < 17592186044416 then ((some (y452 ++ l1 : List Int)).bind fun y455 => (if 0 ≤ (wrap64 (Int.tmod (IntKind.u64.wrap (a2)) (IntKind.u64.wrap ((l0.length : Int))))) then (if (wrap64 (Int.tmod (IntKind.u64.wrap (a2)) (IntKind.u64.wrap ((l0.length : Int))))) < (y455.length : Int) then (if (wrap64 (Int.tmod (IntKind.u64.wrap (a2)) (IntKind.u64.wrap ((l0.length : Int))))) < (l0.length : Int) then (sleuthlaw18_TopStill.l0 k l0 l1 (wrap64 (Int.tmod (IntKind.u64.wrap (a2)) (IntKind.u64.wrap ((l0.length : Int))))) (y455.set ((wrap64 (Int.tmod (IntKind.u64.wrap (a2)) (IntKind.u64.wrap ((l0.length : Int))))) : Int).toNat (Go.bits .and .i64 a3 3)) false ((rd_T41 l0 (wrap64 (Int.tmod (IntKind.u64.wrap (a2)) (IntKind.u64.wrap ((l0.length : Int)))))).f1)) else (none)) else (none)) else (none))) else (none)))) else (some true))) else (none))
theorem sleuthlaw18_TopStill.mono_l : ∀ k, (∀ y0 y1 y2 y3 y4 y5, LeO (sleuthlaw18_TopStill.l0 k y0 y1 y2 y3 y4 y5) (sleuthlaw18_TopStill.l0 (k + 1) y0 y1 y2 y3 y4 y5))
  | 0 => fun _ _ _ _ _ _ r h => by simp [sleuthlaw18_TopStill.l0] at h
  | k + 1 => by
    have ih0 := sleuthlaw18_TopStill.mono_l k
    · intro y0 y1 y2 y3 y4 y5
      unfold sleuthlaw18_TopStill.l0
      repeat' first
      | (with_reducible exact ih0 _ _ _ _ _ _)
      | (with_reducible exact sleuthlaw18_awake.mono _)
      | (with_reducible exact sleuthref12_MarksMay.mono _ _ _)
      | (with_reducible exact top_Next.mono _ _ _)
      | (with_reducible exact LeO.refl _)
      | (with_reducible exact LeO.none _)
      | (with_reducible refine LeO.ite ?_ ?_)
      | (with_reducible refine LeO.bind ?_ (fun _ => ?_))
      | exact ih0 _ _ _ _ _ _
      | exact sleuthlaw18_awake.mono _
      | exact sleuthref12_MarksMay.mono _ _ _
      | exact top_Next.mono _ _ _
      | exact LeO.none _
      | refine LeO.ite ?_ ?_
      | refine LeO.bind ?_ (fun _ => ?_)
theorem sleuthlaw18_TopStill.mono : ∀ a0 a1 a2 a3 k, LeO (sleuthlaw18_TopStill.f k a0 a1 a2 a3) (sleuthlaw18_TopStill.f (k + 1) a0 a1 a2 a3) := by
  intro a0 a1 a2 a3 k
  have ih0 := sleuthlaw18_TopStill.mono_l k
  unfold sleuthlaw18_TopStill.f
  repeat' first
      | (with_reducible exact ih0 _ _ _ _ _ _)
      | (with_reducible exact sleuthlaw18_awake.mono _)
      | (with_reducible exact sleuthref12_MarksMay.mono _ _ _)
      | (with_reducible exact top_Next.mono _ _ _)
      | (with_reducible exact LeO.refl _)
      | (with_reducible exact LeO.none _)
      | (with_reducible refine LeO.ite ?_ ?_)
      | (with_reducible refine LeO.bind ?_ (fun _ => ?_))
      | exact ih0 _ _ _ _ _ _
      | exact sleuthlaw18_awake.mono _
      | exact sleuthref12_MarksMay.mono _ _ _
      | exact top_Next.mono _ _ _
      | exact LeO.none _
      | refine LeO.ite ?_ ?_
      | refine LeO.bind ?_ (fun _ => ?_)
set_option maxHeartbeats 8000000 in
set_option maxRecDepth 100000 in
theorem sleuthlaw18_TopStill.calls (k : Nat) (A0 : Option Addr) (c0 : Nat) (l0 : List (S41)) (A1 : Option Addr) (c1 : Nat) (l1 : List Int) (a2 : Int) (a3 : Int) (r : Bool) (w : World) (hr0 : Kd.C k41 w A0 l0.length l0) (hc0 : l0.length ≤ c0) (hr1 : Kd.C (Kd.int .i64) w A1 l1.length l1) (hc1 : l1.length ≤ c1) (h : sleuthlaw18_TopStill.f k l0 l1 a2 a3 = some r) (hG : GOK w) :
    Calls Tryd.prog 7 #[.slice A0 l0.length c0, .slice A1 l1.length c1, .int .i64 a2, .int .i64 a3] w fun e w' => e = .returned (.bool r) ∧ Below w.heap.size w w' := by
  have hu27 := Tryd.underlying27
  have HR0 := Aside0.mk hr0
  have HC0 := Aside0.mk hc0
  clear hr0 hc0
  have HR1 := Aside0.mk hr1
  have HC1 := Aside0.mk hc1
  clear hr1 hc1
  have HB := Aside0.mk (Below.refl w.heap.size w)
  have H : ((sleuthlaw18_awake.f k).bind fun t450 => (if t450 = true then ((sleuthref12_MarksMay.f k l0 l1).bind fun t451 => (if t451 = true then (if (IntKind.u64.wrap ((l0.length : Int))) = 0 then (none) else ((some (([] : List Int) : List Int)).bind fun y452 => (if y452.length + l1.length < 17592186044416 then ((some (y452 ++ l1 : List Int)).bind fun y455 => (if 0 ≤ (wrap64 (Int.tmod (IntKind.u64.wrap (a2)) (IntKind.u64.wrap ((l0.length : Int))))) then (if (wrap64 (Int.tmod (IntKind.u64.wrap (a2)) (IntKind.u64.wrap ((l0.length : Int))))) < (y455.length : Int) then (if (wrap64 (Int.tmod (IntKind.u64.wrap (a2)) (IntKind.u64.wrap ((l0.length : Int))))) < (l0.length : Int) then (sleuthlaw18_TopStill.l0 k l0 l1 (wrap64 (Int.tmod (IntKind.u64.wrap (a2)) (IntKind.u64.wrap ((l0.length : Int))))) (y455.set ((wrap64 (Int.tmod (IntKind.u64.wrap (a2)) (IntKind.u64.wrap ((l0.length : Int))))) : Int).toNat (Go.bits .and .i64 a3 3)) false ((rd_T41 l0 (wrap64 (Int.tmod (IntKind.u64.wrap (a2)) (IntKind.u64.wrap ((l0.length : Int)))))).f1)) else (none)) else (none)) else (none))) else (none)))) else (some true))) else (none))) = some r := h
  clear h
  replace H := Option.bind_eq_some_iff.mp H
  obtain ⟨t450, A50, H⟩ := H
  replace H : (if t450 = true then ((sleuthref12_MarksMay.f k l0 l1).bind fun t451 => (if t451 = true then (if (IntKind.u64.wrap ((l0.length : Int))) = 0 then (none) else ((some (([] : List Int) : List Int)).bind fun y452 => (if y452.length + l1.length < 17592186044416 then ((some (y452 ++ l1 : List Int)).bind fun y455 => (if 0 ≤ (wrap64 (Int.tmod (IntKind.u64.wrap (a2)) (IntKind.u64.wrap ((l0.length : Int))))) then (if (wrap64 (Int.tmod (IntKind.u64.wrap (a2)) (IntKind.u64.wrap ((l0.length : Int))))) < (y455.length : Int) then (if (wrap64 (Int.tmod (IntKind.u64.wrap (a2)) (IntKind.u64.wrap ((l0.length : Int))))) < (l0.length : Int) then (sleuthlaw18_TopStill.l0 k l0 l1 (wrap64 (Int.tmod (IntKind.u64.wrap (a2)) (IntKind.u64.wrap ((l0.length : Int))))) (y455.set ((wrap64 (Int.tmod (IntKind.u64.wrap (a2)) (IntKind.u64.wrap ((l0.length : Int))))) : Int).toNat (Go.bits .and .i64 a3 3)) false ((rd_T41 l0 (wrap64 (Int.tmod (IntKind.u64.wrap (a2)) (IntKind.u64.wrap ((l0.length : Int)))))).f1)) else (none)) else (none)) else (none))) else (none)))) else (some true))) else (none)) = some r := H
  have A5 := Aside0.mk A50
  clear A50
  by_cases c6 : t450 = true
  · subst c6
    have H1 : ((sleuthref12_MarksMay.f k l0 l1).bind fun t451 => (if t451 = true then (if (IntKind.u64.wrap ((l0.length : Int))) = 0 then (none) else ((some (([] : List Int) : List Int)).bind fun y452 => (if y452.length + l1.length < 17592186044416 then ((some (y452 ++ l1 : List Int)).bind fun y455 => (if 0 ≤ (wrap64 (Int.tmod (IntKind.u64.wrap (a2)) (IntKind.u64.wrap ((l0.length : Int))))) then (if (wrap64 (Int.tmod (IntKind.u64.wrap (a2)) (IntKind.u64.wrap ((l0.length : Int))))) < (y455.length : Int) then (if (wrap64 (Int.tmod (IntKind.u64.wrap (a2)) (IntKind.u64.wrap ((l0.length : Int))))) < (l0.length : Int) then (sleuthlaw18_TopStill.l0 k l0 l1 (wrap64 (Int.tmod (IntKind.u64.wrap (a2)) (IntKind.u64.wrap ((l0.length : Int))))) (y455.set ((wrap64 (Int.tmod (IntKind.u64.wrap (a2)) (IntKind.u64.wrap ((l0.length : Int))))) : Int).toNat (Go.bits .and .i64 a3 3)) false ((rd_T41 l0 (wrap64 (Int.tmod (IntKind.u64.wrap (a2)) (IntKind.u64.wrap ((l0.length : Int)))))).f1)) else (none)) else (none)) else (none))) else (none)))) else (some true))) = some r := by rw [if_pos rfl] at H; exact H
    clear H
    have H := H1
    clear H1
    replace H := Option.bind_eq_some_iff.mp H
    obtain ⟨t451, A70, H⟩ := H
    replace H : (if t451 = true then (if (IntKind.u64.wrap ((l0.length : Int))) = 0 then (none) else ((some (([] : List Int) : List Int)).bind fun y452 => (if y452.length + l1.length < 17592186044416 then ((some (y452 ++ l1 : List Int)).bind fun y455 => (if 0 ≤ (wrap64 (Int.tmod (IntKind.u64.wrap (a2)) (IntKind.u64.wrap ((l0.length : Int))))) then (if (wrap64 (Int.tmod (IntKind.u64.wrap (a2)) (IntKind.u64.wrap ((l0.length : Int))))) < (y455.length : Int) then (if (wrap64 (Int.tmod (IntKind.u64.wrap (a2)) (IntKind.u64.wrap ((l0.length : Int))))) < (l0.length : Int) then (sleuthlaw18_TopStill.l0 k l0 l1 (wrap64 (Int.tmod (IntKind.u64.wrap (a2)) (IntKind.u64.wrap ((l0.length : Int))))) (y455.set ((wrap64 (Int.tmod (IntKind.u64.wrap (a2)) (IntKind.u64.wrap ((l0.length : Int))))) : Int).toNat (Go.bits .and .i64 a3 3)) false ((rd_T41 l0 (wrap64 (Int.tmod (IntKind.u64.wrap (a2)) (IntKind.u64.wrap ((l0.length : Int)))))).f1)) else (none)) else (none)) else (none))) else (none)))) else (some true)) = some r := H
    have A7 := Aside0.mk A70
    clear A70
    by_cases c8 : t451 = true
    · subst c8
      have H1 : (if (IntKind.u64.wrap ((l0.length : Int))) = 0 then (none) else ((some (([] : List Int) : List Int)).bind fun y452 => (if y452.length + l1.length < 17592186044416 then ((some (y452 ++ l1 : List Int)).bind fun y455 => (if 0 ≤ (wrap64 (Int.tmod (IntKind.u64.wrap (a2)) (IntKind.u64.wrap ((l0.length : Int))))) then (if (wrap64 (Int.tmod (IntKind.u64.wrap (a2)) (IntKind.u64.wrap ((l0.length : Int))))) < (y455.length : Int) then (if (wrap64 (Int.tmod (IntKind.u64.wrap (a2)) (IntKind.u64.wrap ((l0.length : Int))))) < (l0.length : Int) then (sleuthlaw18_TopStill.l0 k l0 l1 (wrap64 (Int.tmod (IntKind.u64.wrap (a2)) (IntKind.u64.wrap ((l0.length : Int))))) (y455.set ((wrap64 (Int.tmod (IntKind.u64.wrap (a2)) (IntKind.u64.wrap ((l0.length : Int))))) : Int).toNat (Go.bits .and .i64 a3 3)) false ((rd_T41 l0 (wrap64 (Int.tmod (IntKind.u64.wrap (a2)) (IntKind.u64.wrap ((l0.length : Int)))))).f1)) else (none)) else (none)) else (none))) else (none)))) = some r := by rw [if_pos rfl] at H; exact H
      clear H
      have H := H1
      clear H1
      by_cases c9 : (IntKind.u64.wrap ((l0.length : Int))) = 0
      · rw [if_pos c9] at H
        exact absurd H (by simp)
      · rw [if_neg c9] at H
        have c9b0 : ((IntKind.u64.wrap ((l0.length : Int))) == 0) = false := beq_eq_false_iff_ne.mpr c9
        have c9b1 : ((IntKind.u64.wrap ((l0.length : Int))) != 0) = true := bne_iff_ne.mpr c9
        obtain ⟨y452, hy452⟩ : ∃ y_ : List Int, y_ = (([] : List Int)) := ⟨_, rfl⟩
        replace H : (if y452.length + l1.length < 17592186044416 then ((some (y452 ++ l1 : List Int)).bind fun y455 => (if 0 ≤ (wrap64 (Int.tmod (IntKind.u64.wrap (a2)) (IntKind.u64.wrap ((l0.length : Int))))) then (if (wrap64 (Int.tmod (IntKind.u64.wrap (a2)) (IntKind.u64.wrap ((l0.length : Int))))) < (y455.length : Int) then (if (wrap64 (Int.tmod (IntKind.u64.wrap (a2)) (IntKind.u64.wrap ((l0.length : Int))))) < (l0.length : Int) then (sleuthlaw18_TopStill.l0 k l0 l1 (wrap64 (Int.tmod (IntKind.u64.wrap (a2)) (IntKind.u64.wrap ((l0.length : Int))))) (y455.set ((wrap64 (Int.tmod (IntKind.u64.wrap (a2)) (IntKind.u64.wrap ((l0.length : Int))))) : Int).toNat (Go.bits .and .i64 a3 3)) false ((rd_T41 l0 (wrap64 (Int.tmod (IntKind.u64.wrap (a2)) (IntKind.u64.wrap ((l0.length : Int)))))).f1)) else (none)) else (none)) else (none))) else (none)) = some r := by first | (rw [hy452]; with_reducible exact H) | (have H2_ := (Option.bind_some _ _).symm.trans H; rw [hy452]; with_reducible exact H2_) | (have H2_ := (Option.bind_some _ _).symm.trans H; with_reducible exact H2_) | with_reducible exact H | (rw [hy452]; exact H) | exact H
        have Ny452 := Aside0.mk hy452
        clear hy452
        by_cases c10 : y452.length + l1.length < 17592186044416
        · rw [if_pos c10] at H
          have LMc10 := Aside0.mk c10
          clear c10
          obtain ⟨y455, hy455⟩ : ∃ y_ : List Int, y_ = (y452 ++ l1) := ⟨_, rfl⟩
          replace H : (if 0 ≤ (wrap64 (Int.tmod (IntKind.u64.wrap (a2)) (IntKind.u64.wrap ((l0.length : Int))))) then (if (wrap64 (Int.tmod (IntKind.u64.wrap (a2)) (IntKind.u64.wrap ((l0.length : Int))))) < (y455.length : Int) then (if (wrap64 (Int.tmod (IntKind.u64.wrap (a2)) (IntKind.u64.wrap ((l0.length : Int))))) < (l0.length : Int) then (sleuthlaw18_TopStill.l0 k l0 l1 (wrap64 (Int.tmod (IntKind.u64.wrap (a2)) (IntKind.u64.wrap ((l0.length : Int))))) (y455.set ((wrap64 (Int.tmod (IntKind.u64.wrap (a2)) (IntKind.u64.wrap ((l0.length : Int))))) : Int).toNat (Go.bits .and .i64 a3 3)) false ((rd_T41 l0 (wrap64 (Int.tmod (IntKind.u64.wrap (a2)) (IntKind.u64.wrap ((l0.length : Int)))))).f1)) else (none)) else (none)) else (none)) = some r := by first | (rw [hy455]; with_reducible exact H) | (have H2_ := (Option.bind_some _ _).symm.trans H; rw [hy455]; with_reducible exact H2_) | (have H2_ := (Option.bind_some _ _).symm.trans H; with_reducible exact H2_) | with_reducible exact H | (rw [hy455]; exact H) | exact H
          have Ny455 := Aside0.mk hy455
          clear hy455
          obtain ⟨ji11, hji11⟩ : ∃ j_ : Int, (wrap64 (Int.tmod (IntKind.u64.wrap (a2)) (IntKind.u64.wrap ((l0.length : Int))))) = j_ := ⟨_, rfl⟩
          replace H : (if 0 ≤ (ji11) then (if (ji11) < (y455.length : Int) then (if (ji11) < (l0.length : Int) then (sleuthlaw18_TopStill.l0 k l0 l1 ji11 (y455.set ((ji11) : Int).toNat (Go.bits .and .i64 a3 3)) false ((rd_T41 l0 (ji11)).f1)) else (none)) else (none)) else (none)) = some r := by first | (rw [hji11] at H; exact H) | (simp only [hji11] at H ⊢; exact H)
          (try rw [hji11] at A5)
          (try rw [hji11] at A7)
          have hji11w : (IntKind.i64.wrap (Int.tmod (IntKind.u64.wrap (a2)) (IntKind.u64.wrap ((l0.length : Int))))) = ji11 := (i64_w _).trans hji11
          by_cases c12 : 0 ≤ (ji11)
          · rw [if_pos c12] at H
            have c12b0 : decide (0 ≤ (ji11)) = true := decide_eq_true c12
            clear c12
            by_cases c13 : (ji11) < (y455.length : Int)
            · rw [if_pos c13] at H
              have c13b0 : decide ((ji11) < (y455.length : Int)) = true := decide_eq_true c13
              clear c13
              obtain ⟨y458, hy458⟩ : ∃ y_ : List Int, y_ = (y455.set ((ji11) : Int).toNat (Go.bits .and .i64 a3 3)) := ⟨_, rfl⟩
              replace H : (if (ji11) < (l0.length : Int) then (sleuthlaw18_TopStill.l0 k l0 l1 ji11 y458 false ((rd_T41 l0 (ji11)).f1)) else (none)) = some r := by first | (rw [hy458]; with_reducible exact H) | (have H2_ := (Option.bind_some _ _).symm.trans H; rw [hy458]; with_reducible exact H2_) | (have H2_ := (Option.bind_some _ _).symm.trans H; with_reducible exact H2_) | with_reducible exact H | (rw [hy458]; exact H) | exact H
              have Ny458 := Aside0.mk hy458
              clear hy458
              by_cases c15 : (ji11) < (l0.length : Int)
              · rw [if_pos c15] at H
                have c15b0 : decide ((ji11) < (l0.length : Int)) = true := decide_eq_true c15
                clear c15
                have H' := Aside0.mk H
                clear H
                go_enter Tryd.func7, Tryd.ntmps7
                go_wp2_with (first | ((with_reducible refine gate_callee (f := 20) rfl ?_); refine goesL_ (some 17) rfl rfl Tryd.func20 (by kernel_rfl) rfl #[] rfl hL_ ?_; (with_reducible refine (sleuthlaw18_awake.calls k  true _ A5.out hG_).mono ?_); rintro e w16 ⟨rfl, hb⟩; refine ⟨_, rfl, ?_⟩; have n0_ := Aside0.mk (below_step hB_ hb); clear HB; have HB := n0_; clear n0_; (try clear hb); (try clear hb2); (try clear hk); (try clear hi)) | ((with_reducible refine gate_callee (f := 22) rfl ?_); refine goesL_ (some 21) rfl rfl Tryd.func22 (by kernel_rfl) rfl #[.slice A0 l0.length c0, .slice A1 l1.length c1] rfl hL_ ?_; (with_reducible refine (sleuthref12_MarksMay.calls k _ _ l0 _ _ l1 true _ ?side1 ?side2 ?side3 ?side4 A7.out).mono ?_); (case side1 => repeat (first | exact (Kd.C_below HR0.out HB.out) | (with_reducible refine Kd.C_alloc ?_ _) | (with_reducible refine Kd.C_drewN ?_ _) | (with_reducible refine Kd.C_drew ?_))); (case side2 => exact HC0.out); (case side3 => repeat (first | exact (Kd.C_below HR1.out HB.out) | (with_reducible refine Kd.C_alloc ?_ _) | (with_reducible refine Kd.C_drewN ?_ _) | (with_reducible refine Kd.C_drew ?_))); (case side4 => exact HC1.out); rintro e w17 ⟨rfl, hb⟩; refine ⟨_, rfl, ?_⟩; have n0_ := Aside0.mk (below_step hB_ hb); clear HB; have HB := n0_; clear n0_; (try clear hb); (try clear hb2); (try clear hk); (try clear hi)) | ((with_reducible refine gate_dst (N := 30) rfl ?_); refine Kd.R_lit (Kd.int .i64) _ 3 ?hg (N := 30) ?hd (xs := ([] : List Int)) (inner := []) (ok := fun _ => True) (okp := fun _ => True) ?hr ?hp (fun _ hk => hk) trivial (Below.refl _ _) (Nat.le_refl _) (by simp) ?_; (case hd => rfl); (case hg => rfl); (case hr => first | (go_simp; done) | (go_simp; rfl)); (case hp => exact (Reps.none _ _)); intro v453 w18 ho19 hb hg_ hnew_; clear hg_ hnew_; (first | rw [← Ny452.out] at ho19 | (simp only [Int.reduceToNat] at ho19; rw [← Ny452.out] at ho19)); have n0_ := Aside0.mk (Kd.R_lower ho19 hS_); have n1_ := Aside0.mk (below_step hB_ hb); clear HB; have HO454 := n0_; have HB := n1_; clear n0_ n1_; clear hb ho19) | ((with_reducible refine gate_builtin (b := .append) (xs := #[.tmp 30, .tmp 31]) rfl ?_); at_builtin; refine Kd.R_append_rows (Kd.int .i64) (w0 := w) w.heap.size rfl (.tmp 30) (.tmp 31) 23 3 (.int .i64 0) 8 rfl Tryd.underlying23 info3 rfl (by decide) (by omega) v453 y452 l1 _ _ _ (fun _ => True) (fun _ => False) rfl rfl ?aO ?aR (fun _ _ h => h) (fun _ h => h.elim) ?aF ?aB ?aS ?aL ?_; (case aR => repeat (first | exact (Kd.C_below HR1.out HB.out) | (with_reducible refine Kd.C_alloc ?_ _) | (with_reducible refine Kd.C_drewN ?_ _) | (with_reducible refine Kd.C_drew ?_))); (case aB => exact hB_); (case aF => exact (fun _ _ => trivial)); (case aO => exact (hR_ HO454.out)); (case aS => exact hS_); (case aL => have := LMc10.out; omega); intro v456 w20 ho hb hg hat; rw [← Ny455.out] at ho; have n0_ := Aside0.mk (hb); have n1_ := Aside0.mk (ho); clear HB; clear HO454; have HB := n0_; have HO457 := n1_; clear n0_ n1_; clear ho hb hg hat; have p14 : 0 ≤ ((ji11) : Int) := of_decide_eq_true hA_; have q14 : ((ji11) : Int) < ((y455.length : Int) : Int) := of_decide_eq_true hA_; obtain ⟨go14, co14, eo14, gb14, gl14, cl14, HG14⟩ := Kd.R_form HO457.out (by omega); (first | cases eo14 | (injection eo14 with ea_ en_ ec_; (first | subst ea_ | (injection ea_ with ea_; subst ea_)); subst ec_; clear en_)); have GB14 := Aside0.mk gb14; have GG14 := Aside0.mk HG14; clear gb14 gl14 HG14; obtain ⟨hx14_0, hf14_0⟩ := Kd.R_celln 0 HO457.out ((ji11) : Int) p14 q14; replace p14 := eq_true p14; replace q14 := eq_true q14; obtain ⟨hy21_, hz21_⟩ := Kd.R_celln 0 HO457.out ((ji11) : Int) (of_decide_eq_true hA_) (of_decide_eq_true hA_); have HP21 := Kd.R_putg HO457.out ((ji11) : Int) (Go.bits .and .i64 a3 3)) | ((with_reducible refine gate_store (t := 3) (p := 37) rfl ?_); refine store_event (t := 3) (p := 37) (v := ?vo_w22) (w1 := (w20.setCell ⟨go14, ((ji11) : Int).toNat, none⟩ (.int .i64 (Go.bits .and .i64 a3 3)))) ?hg ?ho ?hn ?hr ?_; (case ho => rfl); (case hg => rfl); (case hn => rfl); (case hr => first | (go_simp; done) | (go_simp; rfl)); intro w22 hw; have hg : w20.grownBy w22 (some go14) := (by rw [hw]; exact HP21.2); have hp_ : Kd.R (Kd.int .i64) 3 w22 w.heap.size (fun _ => True) (.slice (some ⟨go14, 0, none⟩) y455.length co14) y458 := (by rw [hw, Ny458.out]; exact HP21.1); clear HP21; have n0_ := Aside0.mk (hp_); have n1_ := Aside0.mk ((by rw [hw]; exact below_set (HB.out) GB14.out : Below w.heap.size w w22)); clear HO457; clear HB; have HO457 := n0_; have HB := n1_; clear n0_ n1_; clear hg hw hp_; have p459 : 0 ≤ ((ji11) : Int) := of_decide_eq_true hA_; have q459 : (ji11) < (l0.length : Int) := of_decide_eq_true hA_; obtain ⟨ad459, A459_2, c459_2, e459, hx459_0, hx459_1, hx459_2, hx459_3, hl459_2, hi459_2⟩ := at_T41 HR0.out (ji11) p459 q459; cases e459; replace hx459_0 := (HB.out.cell (World.block_lt_of_cell? w _ hx459_0)).trans hx459_0; replace hx459_1 := (HB.out.cell (World.block_lt_of_cell? w _ hx459_1)).trans hx459_1; replace hx459_2 := (HB.out.cell (World.block_lt_of_cell? w _ hx459_2)).trans hx459_2; replace hx459_3 := (HB.out.cell (World.block_lt_of_cell? w _ hx459_3)).trans hx459_3; have HR459_2 := Aside0.mk hi459_2; have HC459_2 := Aside0.mk hl459_2; clear hi459_2 hl459_2; replace p459 := eq_true p459; replace q459 := eq_true q459))
                go_loopg [11, 12] k (fun kq v11 v12 w' => ∃ (x11_1 : Bool) (x12_1 : Int), v11 = .bool x11_1 ∧ v12 = .int .i64 x12_1 ∧ Aside0 (sleuthlaw18_TopStill.l0 kq l0 l1 ji11 y458 x11_1 x12_1 = some r) ∧ Aside0 (kq ≤ k) ∧ Aside0 (Kd.R (Kd.int .i64) 3 w' w.heap.size (fun _ => True) (.slice (some ⟨go14, 0, none⟩) y455.length co14) y458) ∧ Aside0 (Below w.heap.size w w'))
                case atStart => exact ⟨(false), ((rd_T41 l0 (ji11)).f1), (by first | rfl | (simp; done) | (simp [*]; done)), (by first | rfl | (simp; done) | (simp only [← hji11] <;> (first | rfl | simp)) | (simp [*]; done)), H', ⟨Nat.le_refl _⟩, ⟨by (with_reducible repeat (first | apply Kd.R_alloc | apply Kd.R_drewN | apply Kd.R_drew)); exact HO457.out⟩, ⟨by repeat (first | (with_reducible first | exact HB.out | apply below_alloc | apply pw_below_drewN | apply below_drew1) | exact HB.out)⟩⟩
                case round =>
                  clear H'
                  try clear c1
                  try clear p1
                  try clear q1
                  try clear hx1
                  try clear c2
                  try clear p2
                  try clear c4
                  try clear p4
                  try clear q4
                  try clear hx4
                  try clear c6
                  try clear p6
                  try clear c7
                  try clear c8
                  try clear c9
                  try clear c9b0
                  try clear c9b1
                  try clear c10
                  try clear c12
                  try clear c12b0
                  try clear c13
                  try clear c13b0
                  try clear p14
                  try clear q14
                  try clear hx14
                  try clear hf14
                  try clear c15
                  try clear c15b0
                  try clear c20
                  try clear c22
                  try clear hji11
                  try clear hji11w
                  try clear hx14_0
                  try clear hx459_0
                  try clear hx459_1
                  try clear hx459_2
                  try clear hx459_3
                  try clear p14
                  try clear p459
                  try clear q14
                  try clear q459
                  obtain ⟨x11_1, x12_1, rfl, rfl, HA, HK1, HO_10, HB⟩ := hrel
                  have hl10_1 := (Kd.R_reads' HO_10.out).1
                  rw [hl10_1] at HO_10
                  (try simp only [hl10_1])
                  cases gk with
                  | zero => exact absurd HA.out (by simp [sleuthlaw18_TopStill.l0])
                  | succ k1 =>
                    have H := HA.out
                    clear HA
                    simp only [sleuthlaw18_TopStill.l0] at H
                    by_cases c23 : x12_1 > 0
                    · rw [if_pos c23] at H
                      have c23b0 : decide (0 < x12_1) = true := decide_eq_true c23
                      clear c23
                      by_cases c24 : x11_1 = true
                      · subst c24
                        have H1 : (if 0 ≤ x12_1 then (if x12_1 < (l0.length : Int) then (sleuthlaw18_TopStill.l0 k1 l0 l1 ji11 y458 true ((rd_T41 l0 x12_1).f1)) else (none)) else (none)) = some r := by rw [if_pos rfl] at H; exact H
                        clear H
                        have H := H1
                        clear H1
                        by_cases c25 : 0 ≤ x12_1
                        · rw [if_pos c25] at H
                          have c25b0 : decide (0 ≤ x12_1) = true := decide_eq_true c25
                          clear c25
                          by_cases c26 : x12_1 < (l0.length : Int)
                          · rw [if_pos c26] at H
                            have c26b0 : decide (x12_1 < (l0.length : Int)) = true := decide_eq_true c26
                            (try (have c26b0hl10_1 := c26b0; rw [hl10_1] at c26b0hl10_1))
                            clear c26
                            have H' := Aside0.mk H
                            clear H
                            have p460 : 0 ≤ (x12_1 : Int) := of_decide_eq_true hA_
                            have q460 : x12_1 < (l0.length : Int) := of_decide_eq_true hA_
                            obtain ⟨ad460, A460_2, c460_2, e460, hx460_0, hx460_1, hx460_2, hx460_3, hl460_2, hi460_2⟩ := at_T41 HR0.out x12_1 p460 q460
                            obtain rfl : ad459 = ad460 := (by injection e460)
                            replace hx460_0 := (HB.out.cell (World.block_lt_of_cell? w _ hx460_0)).trans hx460_0
                            replace hx460_1 := (HB.out.cell (World.block_lt_of_cell? w _ hx460_1)).trans hx460_1
                            replace hx460_2 := (HB.out.cell (World.block_lt_of_cell? w _ hx460_2)).trans hx460_2
                            replace hx460_3 := (HB.out.cell (World.block_lt_of_cell? w _ hx460_3)).trans hx460_3
                            have HR460_2 := Aside0.mk hi460_2
                            have HC460_2 := Aside0.mk hl460_2
                            clear hi460_2 hl460_2
                            replace p460 := eq_true p460
                            replace q460 := eq_true q460
                            go_wp2
                            (try simp only [← hl10_1])
                            go_roundg k1
                            case measure => have := HK1.out; omega
                            case rel => exact ⟨(true), ((rd_T41 l0 x12_1).f1), (by first | rfl | (simp; done) | (simp [*]; done)), (by first | rfl | (simp; done) | (simp [*]; done)), H', ⟨by have := HK1.out; omega⟩, ⟨by (try simp only [hl10_1]); (with_reducible repeat (first | apply Kd.R_alloc | apply Kd.R_drewN | apply Kd.R_drew)); exact HO_10.out⟩, ⟨by repeat (first | (with_reducible first | exact HB.out | apply below_alloc | apply pw_below_drewN | apply below_drew1) | exact HB.out)⟩⟩
                          · rw [if_neg c26] at H
                            exact absurd H (by simp)
                        · rw [if_neg c25] at H
                          exact absurd H (by simp)
                      · replace c24 := Bool.eq_false_iff.mpr c24
                        subst c24
                        have H1 : (if 0 ≤ x12_1 then (if x12_1 < (l1.length : Int) then (if (rd l1 x12_1) = 1 then (if x12_1 < (l0.length : Int) then (sleuthlaw18_TopStill.l0 k1 l0 l1 ji11 y458 true ((rd_T41 l0 x12_1).f1)) else (none)) else (if (rd l1 x12_1) = 0 then (if x12_1 < (l0.length : Int) then (sleuthlaw18_TopStill.l0 k1 l0 l1 ji11 y458 true ((rd_T41 l0 x12_1).f1)) else (none)) else (if x12_1 < (l0.length : Int) then (sleuthlaw18_TopStill.l0 k1 l0 l1 ji11 y458 ((rd l1 x12_1) == 3) ((rd_T41 l0 x12_1).f1)) else (none)))) else (none)) else (none)) = some r := by rw [if_neg (show ¬ (false = true) by decide)] at H; exact H
                        clear H
                        have H := H1
                        clear H1
                        by_cases c27 : 0 ≤ x12_1
                        · rw [if_pos c27] at H
                          have c27b0 : decide (0 ≤ x12_1) = true := decide_eq_true c27
                          clear c27
                          by_cases c28 : x12_1 < (l1.length : Int)
                          · rw [if_pos c28] at H
                            have c28b0 : decide (x12_1 < (l1.length : Int)) = true := decide_eq_true c28
                            (try (have c28b0hl10_1 := c28b0; rw [hl10_1] at c28b0hl10_1))
                            clear c28
                            by_cases c29 : (rd l1 x12_1) = 1
                            · rw [if_pos c29] at H
                              have c29b0 : ((rd l1 x12_1) == 1) = true := beq_iff_eq.mpr c29
                              have c29b1 : ((rd l1 x12_1) != 1) = false := bne_eq_false_iff_eq.mpr c29
                              clear c29
                              by_cases c30 : x12_1 < (l0.length : Int)
                              · rw [if_pos c30] at H
                                have c30b0 : decide (x12_1 < (l0.length : Int)) = true := decide_eq_true c30
                                (try (have c30b0hl10_1 := c30b0; rw [hl10_1] at c30b0hl10_1))
                                clear c30
                                have H' := Aside0.mk H
                                clear H
                                have p461 : 0 ≤ (x12_1 : Int) := of_decide_eq_true hA_
                                have q461 : x12_1 < (l1.length : Int) := of_decide_eq_true hA_
                                obtain ⟨ad461, e461, hx461_0⟩ := Kd.at_int HR1.out x12_1 p461 q461
                                cases e461
                                replace hx461_0 := (HB.out.cell (World.block_lt_of_cell? w _ hx461_0)).trans hx461_0
                                replace p461 := eq_true p461
                                replace q461 := eq_true q461
                                have p462 : 0 ≤ (x12_1 : Int) := of_decide_eq_true hA_
                                have q462 : x12_1 < (l0.length : Int) := of_decide_eq_true hA_
                                obtain ⟨ad462, A462_2, c462_2, e462, hx462_0, hx462_1, hx462_2, hx462_3, hl462_2, hi462_2⟩ := at_T41 HR0.out x12_1 p462 q462
                                obtain rfl : ad459 = ad462 := (by injection e462)
                                replace hx462_0 := (HB.out.cell (World.block_lt_of_cell? w _ hx462_0)).trans hx462_0
                                replace hx462_1 := (HB.out.cell (World.block_lt_of_cell? w _ hx462_1)).trans hx462_1
                                replace hx462_2 := (HB.out.cell (World.block_lt_of_cell? w _ hx462_2)).trans hx462_2
                                replace hx462_3 := (HB.out.cell (World.block_lt_of_cell? w _ hx462_3)).trans hx462_3
                                have HR462_2 := Aside0.mk hi462_2
                                have HC462_2 := Aside0.mk hl462_2
                                clear hi462_2 hl462_2
                                replace p462 := eq_true p462
                                replace q462 := eq_true q462
                                go_wp2
                                (try simp only [← hl10_1])
                                go_roundg k1
                                case measure => have := HK1.out; omega
                                case rel => exact ⟨(true), ((rd_T41 l0 x12_1).f1), (by first | rfl | (simp; done) | (simp [*]; done)), (by first | rfl | (simp; done) | (simp [*]; done)), H', ⟨by have := HK1.out; omega⟩, ⟨by (try simp only [hl10_1]); (with_reducible repeat (first | apply Kd.R_alloc | apply Kd.R_drewN | apply Kd.R_drew)); exact HO_10.out⟩, ⟨by repeat (first | (with_reducible first | exact HB.out | apply below_alloc | apply pw_below_drewN | apply below_drew1) | exact HB.out)⟩⟩
                              · rw [if_neg c30] at H
                                exact absurd H (by simp)
                            · rw [if_neg c29] at H
                              have c29b0 : ((rd l1 x12_1) == 1) = false := beq_eq_false_iff_ne.mpr c29
                              have c29b1 : ((rd l1 x12_1) != 1) = true := bne_iff_ne.mpr c29
                              by_cases c31 : (rd l1 x12_1) = 0
                              · rw [if_pos c31] at H
                                have c31b0 : ((rd l1 x12_1) == 0) = true := beq_iff_eq.mpr c31
                                have c31b1 : ((rd l1 x12_1) != 0) = false := bne_eq_false_iff_eq.mpr c31
                                clear c31
                                by_cases c32 : x12_1 < (l0.length : Int)
                                · rw [if_pos c32] at H
                                  have c32b0 : decide (x12_1 < (l0.length : Int)) = true := decide_eq_true c32
                                  (try (have c32b0hl10_1 := c32b0; rw [hl10_1] at c32b0hl10_1))
                                  clear c32
                                  have H' := Aside0.mk H
                                  clear H
                                  have p461 : 0 ≤ (x12_1 : Int) := of_decide_eq_true hA_
                                  have q461 : x12_1 < (l1.length : Int) := of_decide_eq_true hA_
                                  obtain ⟨ad461, e461, hx461_0⟩ := Kd.at_int HR1.out x12_1 p461 q461
                                  cases e461
                                  replace hx461_0 := (HB.out.cell (World.block_lt_of_cell? w _ hx461_0)).trans hx461_0
                                  replace p461 := eq_true p461
                                  replace q461 := eq_true q461
                                  have p463 : 0 ≤ (x12_1 : Int) := of_decide_eq_true hA_
                                  have q463 : x12_1 < (l1.length : Int) := of_decide_eq_true hA_
                                  obtain ⟨ad463, e463, hx463_0⟩ := Kd.at_int HR1.out x12_1 p463 q463
                                  obtain rfl : ad461 = ad463 := (by injection e463)
                                  replace hx463_0 := (HB.out.cell (World.block_lt_of_cell? w _ hx463_0)).trans hx463_0
                                  replace p463 := eq_true p463
                                  replace q463 := eq_true q463
                                  have p464 : 0 ≤ (x12_1 : Int) := of_decide_eq_true hA_
                                  have q464 : x12_1 < (l0.length : Int) := of_decide_eq_true hA_
                                  obtain ⟨ad464, A464_2, c464_2, e464, hx464_0, hx464_1, hx464_2, hx464_3, hl464_2, hi464_2⟩ := at_T41 HR0.out x12_1 p464 q464
                                  obtain rfl : ad459 = ad464 := (by injection e464)
                                  replace hx464_0 := (HB.out.cell (World.block_lt_of_cell? w _ hx464_0)).trans hx464_0
                                  replace hx464_1 := (HB.out.cell (World.block_lt_of_cell? w _ hx464_1)).trans hx464_1
                                  replace hx464_2 := (HB.out.cell (World.block_lt_of_cell? w _ hx464_2)).trans hx464_2
                                  replace hx464_3 := (HB.out.cell (World.block_lt_of_cell? w _ hx464_3)).trans hx464_3
                                  have HR464_2 := Aside0.mk hi464_2
                                  have HC464_2 := Aside0.mk hl464_2
                                  clear hi464_2 hl464_2
                                  replace p464 := eq_true p464
                                  replace q464 := eq_true q464
                                  go_wp2
                                  (try simp only [← hl10_1])
                                  go_roundg k1
                                  case measure => have := HK1.out; omega
                                  case rel => exact ⟨(true), ((rd_T41 l0 x12_1).f1), (by first | rfl | (simp; done) | (simp [*]; done)), (by first | rfl | (simp; done) | (simp [*]; done)), H', ⟨by have := HK1.out; omega⟩, ⟨by (try simp only [hl10_1]); (with_reducible repeat (first | apply Kd.R_alloc | apply Kd.R_drewN | apply Kd.R_drew)); exact HO_10.out⟩, ⟨by repeat (first | (with_reducible first | exact HB.out | apply below_alloc | apply pw_below_drewN | apply below_drew1) | exact HB.out)⟩⟩
                                · rw [if_neg c32] at H
                                  exact absurd H (by simp)
                              · rw [if_neg c31] at H
                                have c31b0 : ((rd l1 x12_1) == 0) = false := beq_eq_false_iff_ne.mpr c31
                                have c31b1 : ((rd l1 x12_1) != 0) = true := bne_iff_ne.mpr c31
                                by_cases c33 : x12_1 < (l0.length : Int)
                                · rw [if_pos c33] at H
                                  have c33b0 : decide (x12_1 < (l0.length : Int)) = true := decide_eq_true c33
                                  (try (have c33b0hl10_1 := c33b0; rw [hl10_1] at c33b0hl10_1))
                                  clear c33
                                  have H' := Aside0.mk H
                                  clear H
                                  have p461 : 0 ≤ (x12_1 : Int) := of_decide_eq_true hA_
                                  have q461 : x12_1 < (l1.length : Int) := of_decide_eq_true hA_
                                  obtain ⟨ad461, e461, hx461_0⟩ := Kd.at_int HR1.out x12_1 p461 q461
                                  cases e461
                                  replace hx461_0 := (HB.out.cell (World.block_lt_of_cell? w _ hx461_0)).trans hx461_0
                                  replace p461 := eq_true p461
                                  replace q461 := eq_true q461
                                  have p463 : 0 ≤ (x12_1 : Int) := of_decide_eq_true hA_
                                  have q463 : x12_1 < (l1.length : Int) := of_decide_eq_true hA_
                                  obtain ⟨ad463, e463, hx463_0⟩ := Kd.at_int HR1.out x12_1 p463 q463
                                  obtain rfl : ad461 = ad463 := (by injection e463)
                                  replace hx463_0 := (HB.out.cell (World.block_lt_of_cell? w _ hx463_0)).trans hx463_0
                                  replace p463 := eq_true p463
                                  replace q463 := eq_true q463
                                  have p465 : 0 ≤ (x12_1 : Int) := of_decide_eq_true hA_
                                  have q465 : x12_1 < (l1.length : Int) := of_decide_eq_true hA_
                                  obtain ⟨ad465, e465, hx465_0⟩ := Kd.at_int HR1.out x12_1 p465 q465
                                  obtain rfl : ad461 = ad465 := (by injection e465)
                                  replace hx465_0 := (HB.out.cell (World.block_lt_of_cell? w _ hx465_0)).trans hx465_0
                                  replace p465 := eq_true p465
                                  replace q465 := eq_true q465
                                  have p466 : 0 ≤ (x12_1 : Int) := of_decide_eq_true hA_
                                  have q466 : x12_1 < (l0.length : Int) := of_decide_eq_true hA_
                                  obtain ⟨ad466, A466_2, c466_2, e466, hx466_0, hx466_1, hx466_2, hx466_3, hl466_2, hi466_2⟩ := at_T41 HR0.out x12_1 p466 q466
                                  obtain rfl : ad459 = ad466 := (by injection e466)
                                  replace hx466_0 := (HB.out.cell (World.block_lt_of_cell? w _ hx466_0)).trans hx466_0
                                  replace hx466_1 := (HB.out.cell (World.block_lt_of_cell? w _ hx466_1)).trans hx466_1
                                  replace hx466_2 := (HB.out.cell (World.block_lt_of_cell? w _ hx466_2)).trans hx466_2
                                  replace hx466_3 := (HB.out.cell (World.block_lt_of_cell? w _ hx466_3)).trans hx466_3
                                  have HR466_2 := Aside0.mk hi466_2
                                  have HC466_2 := Aside0.mk hl466_2
                                  clear hi466_2 hl466_2
                                  replace p466 := eq_true p466
                                  replace q466 := eq_true q466
                                  go_wp2
                                  (try simp only [← hl10_1])
                                  go_roundg k1
                                  case measure => have := HK1.out; omega
                                  case rel => exact ⟨(((rd l1 x12_1) == 3)), ((rd_T41 l0 x12_1).f1), (by first | rfl | (simp; done) | (simp [*]; done)), (by first | rfl | (simp; done) | (simp [*]; done)), H', ⟨by have := HK1.out; omega⟩, ⟨by (try simp only [hl10_1]); (with_reducible repeat (first | apply Kd.R_alloc | apply Kd.R_drewN | apply Kd.R_drew)); exact HO_10.out⟩, ⟨by repeat (first | (with_reducible first | exact HB.out | apply below_alloc | apply pw_below_drewN | apply below_drew1) | exact HB.out)⟩⟩
                                · rw [if_neg c33] at H
                                  exact absurd H (by simp)
                          · rw [if_neg c28] at H
                            exact absurd H (by simp)
                        · rw [if_neg c27] at H
                          exact absurd H (by simp)
                    · rw [if_neg c23] at H
                      have c23b0 : decide (0 < x12_1) = false := decide_eq_false c23
                      clear c23
                      replace H := Option.bind_eq_some_iff.mp H
                      obtain ⟨⟨t467, t468, t469⟩, A340, H⟩ := H
                      replace H : ((top_Next.f k1 l0 y458).bind fun bt471 => ((sleuthlaw0_Num.f t469).bind fun t475 => (if t475 = 0 then ((sleuthlaw0_Num.f bt471.2.2).bind fun t476 => (if t476 = 0 then (if x11_1 = true then (if ji11 = 0 then (some true) else (some (t467 == bt471.1 && (t468 == bt471.2.1)))) else (if 0 < (l1.length : Int) then (if (rd l1 0) = 2 then (some true) else (if ji11 = 0 then (some true) else (some (t467 == bt471.1 && (t468 == bt471.2.1))))) else (none))) else (none))) else (none)))) = some r := H
                      have A34 := Aside0.mk A340
                      clear A340
                      replace H := Option.bind_eq_some_iff.mp H
                      obtain ⟨⟨t471, t472, t473⟩, A350, H⟩ := H
                      replace H : ((sleuthlaw0_Num.f t469).bind fun t475 => (if t475 = 0 then ((sleuthlaw0_Num.f t473).bind fun t476 => (if t476 = 0 then (if x11_1 = true then (if ji11 = 0 then (some true) else (some (t467 == t471 && (t468 == t472)))) else (if 0 < (l1.length : Int) then (if (rd l1 0) = 2 then (some true) else (if ji11 = 0 then (some true) else (some (t467 == t471 && (t468 == t472))))) else (none))) else (none))) else (none))) = some r := H
                      have A35 := Aside0.mk A350
                      clear A350
                      replace H := Option.bind_eq_some_iff.mp H
                      obtain ⟨t475, A360, H⟩ := H
                      replace H : (if t475 = 0 then ((sleuthlaw0_Num.f t473).bind fun t476 => (if t476 = 0 then (if x11_1 = true then (if ji11 = 0 then (some true) else (some (t467 == t471 && (t468 == t472)))) else (if 0 < (l1.length : Int) then (if (rd l1 0) = 2 then (some true) else (if ji11 = 0 then (some true) else (some (t467 == t471 && (t468 == t472))))) else (none))) else (none))) else (none)) = some r := H
                      have A36 := Aside0.mk A360
                      clear A360
                      by_cases c37 : t475 = 0
                      · rw [if_pos c37] at H
                        have c37b0 : (t475 == 0) = true := beq_iff_eq.mpr c37
                        have c37b1 : (t475 != 0) = false := bne_eq_false_iff_eq.mpr c37
                        clear c37
                        replace H := Option.bind_eq_some_iff.mp H
                        obtain ⟨t476, A380, H⟩ := H
                        replace H : (if t476 = 0 then (if x11_1 = true then (if ji11 = 0 then (some true) else (some (t467 == t471 && (t468 == t472)))) else (if 0 < (l1.length : Int) then (if (rd l1 0) = 2 then (some true) else (if ji11 = 0 then (some true) else (some (t467 == t471 && (t468 == t472))))) else (none))) else (none)) = some r := H
                        have A38 := Aside0.mk A380
                        clear A380
                        by_cases c39 : t476 = 0
                        · rw [if_pos c39] at H
                          have c39b0 : (t476 == 0) = true := beq_iff_eq.mpr c39
                          have c39b1 : (t476 != 0) = false := bne_eq_false_iff_eq.mpr c39
                          clear c39
                          by_cases c40 : x11_1 = true
                          · subst c40
                            have H1 : (if ji11 = 0 then (some true) else (some (t467 == t471 && (t468 == t472)))) = some r := by rw [if_pos rfl] at H; exact H
                            clear H
                            have H := H1
                            clear H1
                            by_cases c41 : ji11 = 0
                            · rw [if_pos c41] at H
                              have c41b0 : (ji11 == 0) = true := beq_iff_eq.mpr c41
                              have c41b1 : (ji11 != 0) = false := bne_eq_false_iff_eq.mpr c41
                              clear c41
                              obtain rfl := Option.some.inj H
                              go_wp2_with (first | ((with_reducible refine gate_callee (f := 15) rfl ?_); refine goesL_ (some 75) rfl rfl Tryd.func15 (by kernel_rfl) rfl #[.slice (some ad459) l0.length c0, .slice A1 l1.length c1] rfl hL_ ?_; (with_reducible refine (top_Next.calls k1 _ _ l0 _ _ l1 t467 t468 t469 _ ?side1 ?side2 ?side3 ?side4 A34.out hG_).mono ?_); (case side1 => repeat (first | exact (Kd.C_below HR0.out HB.out) | (with_reducible refine Kd.C_alloc ?_ _) | (with_reducible refine Kd.C_drewN ?_ _) | (with_reducible refine Kd.C_drew ?_))); (case side2 => exact HC0.out); (case side3 => repeat (first | exact (Kd.C_below HR1.out HB.out) | (with_reducible refine Kd.C_alloc ?_ _) | (with_reducible refine Kd.C_drewN ?_ _) | (with_reducible refine Kd.C_drew ?_))); (case side4 => exact HC1.out); rintro e w42 ⟨rfl, hb⟩; refine ⟨_, rfl, ?_⟩; have n0_ := Aside0.mk (Kd.R_below (hR_ HO_10.out) hb); have n1_ := Aside0.mk (below_step hB_ hb); clear HO_10; clear HB; have HO_10 := n0_; have HB := n1_; clear n0_ n1_; (try clear hb); (try clear hb2); (try clear hk); (try clear hi)) | ((with_reducible refine gate_dst (N := 13) rfl ?_); refine box_event ?hg (N := 13) ?hd (cs := #[.int .i64 0, .int .i64 0]) (t := 27) ?hr ?_; (case hd => rfl); (case hg => rfl); (case hr => first | (go_simp; done) | (go_simp; rfl)); intro gb470 hg w43 hbox hb; have n0_ := Aside0.mk (Kd.R_below (hR_ HO_10.out) hb); have n1_ := Aside0.mk (below_step hB_ hb); have n2_ := Aside0.mk (hbox); have n3_ := Aside0.mk ((by rw [hg]; exact hS_ : w.heap.size ≤ gb470)); have n4_ := Aside0.mk ((by rw [hg]; exact hS_ : w.heap.size ≤ gb470)); clear HO_10; clear HB; have HO_10 := n0_; have HB := n1_; have BK470 := n2_; have GW470 := n3_; have GE470 := n4_; clear n0_ n1_ n2_ n3_ n4_; clear hb hbox hg; have hcz44_0 : w43.cell? ⟨gb470, 0, none⟩ = some (.int .i64 0) := (blk_cell BK470.out 0).trans rfl; have hcz44_1 : w43.cell? ⟨gb470, 1, none⟩ = some (.int .i64 0) := (blk_cell BK470.out 1).trans rfl; have hfz44_0 := blk_frozen BK470.out 0; have hfz44_1 := blk_frozen BK470.out 1) | ((with_reducible refine gate_callee (f := 15) rfl ?_); refine goesL_ (some 81) rfl rfl Tryd.func15 (by kernel_rfl) rfl #[.slice (some ad459) l0.length c0, .slice (some ⟨go14, 0, none⟩) y458.length co14] rfl hL_ ?_; (with_reducible refine (top_Next.calls k1 _ _ l0 _ _ y458 t471 t472 t473 _ ?side1 ?side2 ?side3 ?side4 A35.out (by first | exact hG | exact GOK.below hG (by repeat (first | (with_reducible first | exact HB.out | apply below_alloc | apply pw_below_drewN | apply below_drew1 | refine below_set ?_ GE470.out) | exact HB.out)))).mono ?_); (case side1 => exact Kd.C_below HR0.out (by repeat (first | (with_reducible first | exact HB.out | apply below_alloc | apply pw_below_drewN | apply below_drew1 | refine below_set ?_ GE470.out) | exact HB.out))); (case side2 => exact HC0.out); (case side3 => refine (Kd.R_reads' (e := 3) (base := w.heap.size) (ok := fun k_ => True) (n := y458.length) (c := co14) ?_).2.2; exact (by (with_reducible repeat (first | apply Kd.R_alloc | apply Kd.R_drewN | apply Kd.R_drew)); exact (Kd.R_mono (Kd.R_far (p := ⟨gb470, 1, none⟩) (Kd.R_far (p := ⟨gb470, 0, none⟩) (Kd.R_types HO_10.out BK470.out (by decide)) (fun _ hk => hk.2) (.int .i64 t467)) (fun _ hk => hk.2) (.int .i64 t468)) (fun _ h_ => h_.1)))); (case side4 => exact (Kd.R_reads' HO_10.out).2.1); rintro e w45 ⟨rfl, hb⟩; refine ⟨_, rfl, ?_⟩; have n0_ := Aside0.mk (Kd.R_below (by (with_reducible repeat (first | apply Kd.R_alloc | apply Kd.R_drewN | apply Kd.R_drew)); exact (Kd.R_mono (Kd.R_far (p := ⟨gb470, 1, none⟩) (Kd.R_far (p := ⟨gb470, 0, none⟩) (Kd.R_types HO_10.out BK470.out (by decide)) (fun _ hk => hk.2) (.int .i64 t467)) (fun _ hk => hk.2) (.int .i64 t468)) (fun _ h_ => h_.1))) hb); have n1_ := Aside0.mk (blk_below (g := gb470) (o := .cells #[.int .i64 t467, .int .i64 t468] 27 (0, 0)) (by (with_reducible repeat (first | refine blk_drewN ?_ _ | refine blk_drew ?_ | refine blk_alloc ?_ _)); refine blk_put (cs := #[.int .i64 t467, .int .i64 0]) ?_ 1 _ rfl; (with_reducible repeat (first | refine blk_drewN ?_ _ | refine blk_drew ?_ | refine blk_alloc ?_ _)); refine blk_put (cs := #[.int .i64 0, .int .i64 0]) ?_ 0 _ rfl; (with_reducible repeat (first | refine blk_drewN ?_ _ | refine blk_drew ?_ | refine blk_alloc ?_ _)); exact BK470.out) hb); have n2_ := Aside0.mk (below_step (by repeat (first | (with_reducible first | exact HB.out | apply below_alloc | apply pw_below_drewN | apply below_drew1 | refine below_set ?_ GE470.out) | exact HB.out)) hb); clear HO_10; clear BK470; clear HB; have HO_10 := n0_; have BK470 := n1_; have HB := n2_; clear n0_ n1_ n2_; (try clear hb); (try clear hb2); (try clear hk); (try clear hi)) | ((with_reducible refine gate_dst (N := 15) rfl ?_); refine box_event ?hg (N := 15) ?hd (cs := #[.int .i64 0, .int .i64 0]) (t := 27) ?hr ?_; (case hd => rfl); (case hg => rfl); (case hr => first | (go_simp; done) | (go_simp; rfl)); intro gb474 hg w46 hbox hb; have n0_ := Aside0.mk (Kd.R_below (hR_ HO_10.out) hb); have n1_ := Aside0.mk (blk_below (g := gb470) (o := .cells #[.int .i64 t467, .int .i64 t468] 27 (0, 0)) (by (with_reducible repeat (first | refine blk_drewN ?_ _ | refine blk_drew ?_ | refine blk_alloc ?_ _)); exact BK470.out) hb); have n2_ := Aside0.mk (below_step (by repeat (first | (with_reducible first | exact HB.out | apply below_alloc | apply pw_below_drewN | apply below_drew1 | refine below_set ?_ GE470.out) | exact HB.out)) hb); have n3_ := Aside0.mk (hbox); have n4_ := Aside0.mk ((by rw [hg]; exact (below_size (by repeat (first | (with_reducible first | exact HB.out | apply below_alloc | apply pw_below_drewN | apply below_drew1 | refine below_set ?_ GE470.out) | exact HB.out))) : w.heap.size ≤ gb474)); have n5_ := Aside0.mk ((by rw [hg]; exact (below_size (by repeat (first | (with_reducible first | exact HB.out | apply below_alloc | apply pw_below_drewN | apply below_drew1 | refine below_set ?_ GE470.out) | exact HB.out))) : w.heap.size ≤ gb474)); have n6_ := Aside0.mk ((by rw [hg]; exact Nat.ne_of_lt (blk_lt (g := gb470) (o := .cells #[.int .i64 t467, .int .i64 t468] 27 (0, 0)) (by (with_reducible repeat (first | refine blk_drewN ?_ _ | refine blk_drew ?_ | refine blk_alloc ?_ _)); exact BK470.out)) : gb470 ≠ gb474)); have n7_ := Aside0.mk ((by rw [hg]; exact Nat.ne_of_gt (blk_lt (g := gb470) (o := .cells #[.int .i64 t467, .int .i64 t468] 27 (0, 0)) (by (with_reducible repeat (first | refine blk_drewN ?_ _ | refine blk_drew ?_ | refine blk_alloc ?_ _)); exact BK470.out)) : gb474 ≠ gb470)); clear HO_10; clear BK470; clear HB; have HO_10 := n0_; have BK470 := n1_; have HB := n2_; have BK474 := n3_; have GW474 := n4_; have GE474 := n5_; have NB470_474 := n6_; have NB474_470 := n7_; clear n0_ n1_ n2_ n3_ n4_ n5_ n6_ n7_; clear hb hbox hg; have hnb47 := NB474_470.out; have hnc47 := NB470_474.out; have hcz48_0 : w46.cell? ⟨gb474, 0, none⟩ = some (.int .i64 0) := (blk_cell BK474.out 0).trans rfl; have hcz48_1 : w46.cell? ⟨gb474, 1, none⟩ = some (.int .i64 0) := (blk_cell BK474.out 1).trans rfl; have hfz48_0 := blk_frozen BK474.out 0; have hfz48_1 := blk_frozen BK474.out 1) | ((with_reducible refine gate_callee (f := 17) rfl ?_); refine goesL_ (some 85) rfl rfl Tryd.func17 (by kernel_rfl) rfl #[.int .i64 t469] rfl hL_ ?_; (with_reducible refine (sleuthlaw0_Num.calls t469 t475 _ A36.out).mono ?_); rintro e w' ⟨rfl, ⟨nd, rfl⟩⟩; refine ⟨_, rfl, ?_⟩) | (go_at_call 17; (with_reducible refine (sleuthlaw0_Num.calls t473 t476 _ A38.out).mono ?_); rintro e w' ⟨rfl, ⟨nd, rfl⟩⟩))
                              go_ret
                              exact ⟨by first | rfl | (simp [errW_none, errW_some] <;> rfl) | (simp only [← hji11]; first | rfl | (simp [errW_none, errW_some] <;> rfl)) | (simp [*, errW_none, errW_some] <;> rfl), by repeat (first | (with_reducible first | exact HB.out | apply below_alloc | apply pw_below_drewN | apply below_drew1 | refine below_set ?_ GE470.out | refine below_set ?_ GE474.out) | exact HB.out)⟩
                            · rw [if_neg c41] at H
                              have c41b0 : (ji11 == 0) = false := beq_eq_false_iff_ne.mpr c41
                              have c41b1 : (ji11 != 0) = true := bne_iff_ne.mpr c41
                              obtain rfl := Option.some.inj H
                              go_wp2_with (first | ((with_reducible refine gate_callee (f := 15) rfl ?_); refine goesL_ (some 75) rfl rfl Tryd.func15 (by kernel_rfl) rfl #[.slice (some ad459) l0.length c0, .slice A1 l1.length c1] rfl hL_ ?_; (with_reducible refine (top_Next.calls k1 _ _ l0 _ _ l1 t467 t468 t469 _ ?side1 ?side2 ?side3 ?side4 A34.out hG_).mono ?_); (case side1 => repeat (first | exact (Kd.C_below HR0.out HB.out) | (with_reducible refine Kd.C_alloc ?_ _) | (with_reducible refine Kd.C_drewN ?_ _) | (with_reducible refine Kd.C_drew ?_))); (case side2 => exact HC0.out); (case side3 => repeat (first | exact (Kd.C_below HR1.out HB.out) | (with_reducible refine Kd.C_alloc ?_ _) | (with_reducible refine Kd.C_drewN ?_ _) | (with_reducible refine Kd.C_drew ?_))); (case side4 => exact HC1.out); rintro e w49 ⟨rfl, hb⟩; refine ⟨_, rfl, ?_⟩; have n0_ := Aside0.mk (Kd.R_below (hR_ HO_10.out) hb); have n1_ := Aside0.mk (below_step hB_ hb); clear HO_10; clear HB; have HO_10 := n0_; have HB := n1_; clear n0_ n1_; (try clear hb); (try clear hb2); (try clear hk); (try clear hi)) | ((with_reducible refine gate_dst (N := 13) rfl ?_); refine box_event ?hg (N := 13) ?hd (cs := #[.int .i64 0, .int .i64 0]) (t := 27) ?hr ?_; (case hd => rfl); (case hg => rfl); (case hr => first | (go_simp; done) | (go_simp; rfl)); intro gb470 hg w50 hbox hb; have n0_ := Aside0.mk (Kd.R_below (hR_ HO_10.out) hb); have n1_ := Aside0.mk (below_step hB_ hb); have n2_ := Aside0.mk (hbox); have n3_ := Aside0.mk ((by rw [hg]; exact hS_ : w.heap.size ≤ gb470)); have n4_ := Aside0.mk ((by rw [hg]; exact hS_ : w.heap.size ≤ gb470)); clear HO_10; clear HB; have HO_10 := n0_; have HB := n1_; have BK470 := n2_; have GW470 := n3_; have GE470 := n4_; clear n0_ n1_ n2_ n3_ n4_; clear hb hbox hg; have hcz51_0 : w50.cell? ⟨gb470, 0, none⟩ = some (.int .i64 0) := (blk_cell BK470.out 0).trans rfl; have hcz51_1 : w50.cell? ⟨gb470, 1, none⟩ = some (.int .i64 0) := (blk_cell BK470.out 1).trans rfl; have hfz51_0 := blk_frozen BK470.out 0; have hfz51_1 := blk_frozen BK470.out 1) | ((with_reducible refine gate_callee (f := 15) rfl ?_); refine goesL_ (some 81) rfl rfl Tryd.func15 (by kernel_rfl) rfl #[.slice (some ad459) l0.length c0, .slice (some ⟨go14, 0, none⟩) y458.length co14] rfl hL_ ?_; (with_reducible refine (top_Next.calls k1 _ _ l0 _ _ y458 t471 t472 t473 _ ?side1 ?side2 ?side3 ?side4 A35.out (by first | exact hG | exact GOK.below hG (by repeat (first | (with_reducible first | exact HB.out | apply below_alloc | apply pw_below_drewN | apply below_drew1 | refine below_set ?_ GE470.out) | exact HB.out)))).mono ?_); (case side1 => exact Kd.C_below HR0.out (by repeat (first | (with_reducible first | exact HB.out | apply below_alloc | apply pw_below_drewN | apply below_drew1 | refine below_set ?_ GE470.out) | exact HB.out))); (case side2 => exact HC0.out); (case side3 => refine (Kd.R_reads' (e := 3) (base := w.heap.size) (ok := fun k_ => True) (n := y458.length) (c := co14) ?_).2.2; exact (by (with_reducible repeat (first | apply Kd.R_alloc | apply Kd.R_drewN | apply Kd.R_drew)); exact (Kd.R_mono (Kd.R_far (p := ⟨gb470, 1, none⟩) (Kd.R_far (p := ⟨gb470, 0, none⟩) (Kd.R_types HO_10.out BK470.out (by decide)) (fun _ hk => hk.2) (.int .i64 t467)) (fun _ hk => hk.2) (.int .i64 t468)) (fun _ h_ => h_.1)))); (case side4 => exact (Kd.R_reads' HO_10.out).2.1); rintro e w52 ⟨rfl, hb⟩; refine ⟨_, rfl, ?_⟩; have n0_ := Aside0.mk (Kd.R_below (by (with_reducible repeat (first | apply Kd.R_alloc | apply Kd.R_drewN | apply Kd.R_drew)); exact (Kd.R_mono (Kd.R_far (p := ⟨gb470, 1, none⟩) (Kd.R_far (p := ⟨gb470, 0, none⟩) (Kd.R_types HO_10.out BK470.out (by decide)) (fun _ hk => hk.2) (.int .i64 t467)) (fun _ hk => hk.2) (.int .i64 t468)) (fun _ h_ => h_.1))) hb); have n1_ := Aside0.mk (blk_below (g := gb470) (o := .cells #[.int .i64 t467, .int .i64 t468] 27 (0, 0)) (by (with_reducible repeat (first | refine blk_drewN ?_ _ | refine blk_drew ?_ | refine blk_alloc ?_ _)); refine blk_put (cs := #[.int .i64 t467, .int .i64 0]) ?_ 1 _ rfl; (with_reducible repeat (first | refine blk_drewN ?_ _ | refine blk_drew ?_ | refine blk_alloc ?_ _)); refine blk_put (cs := #[.int .i64 0, .int .i64 0]) ?_ 0 _ rfl; (with_reducible repeat (first | refine blk_drewN ?_ _ | refine blk_drew ?_ | refine blk_alloc ?_ _)); exact BK470.out) hb); have n2_ := Aside0.mk (below_step (by repeat (first | (with_reducible first | exact HB.out | apply below_alloc | apply pw_below_drewN | apply below_drew1 | refine below_set ?_ GE470.out) | exact HB.out)) hb); clear HO_10; clear BK470; clear HB; have HO_10 := n0_; have BK470 := n1_; have HB := n2_; clear n0_ n1_ n2_; (try clear hb); (try clear hb2); (try clear hk); (try clear hi)) | ((with_reducible refine gate_dst (N := 15) rfl ?_); refine box_event ?hg (N := 15) ?hd (cs := #[.int .i64 0, .int .i64 0]) (t := 27) ?hr ?_; (case hd => rfl); (case hg => rfl); (case hr => first | (go_simp; done) | (go_simp; rfl)); intro gb474 hg w53 hbox hb; have n0_ := Aside0.mk (Kd.R_below (hR_ HO_10.out) hb); have n1_ := Aside0.mk (blk_below (g := gb470) (o := .cells #[.int .i64 t467, .int .i64 t468] 27 (0, 0)) (by (with_reducible repeat (first | refine blk_drewN ?_ _ | refine blk_drew ?_ | refine blk_alloc ?_ _)); exact BK470.out) hb); have n2_ := Aside0.mk (below_step (by repeat (first | (with_reducible first | exact HB.out | apply below_alloc | apply pw_below_drewN | apply below_drew1 | refine below_set ?_ GE470.out) | exact HB.out)) hb); have n3_ := Aside0.mk (hbox); have n4_ := Aside0.mk ((by rw [hg]; exact (below_size (by repeat (first | (with_reducible first | exact HB.out | apply below_alloc | apply pw_below_drewN | apply below_drew1 | refine below_set ?_ GE470.out) | exact HB.out))) : w.heap.size ≤ gb474)); have n5_ := Aside0.mk ((by rw [hg]; exact (below_size (by repeat (first | (with_reducible first | exact HB.out | apply below_alloc | apply pw_below_drewN | apply below_drew1 | refine below_set ?_ GE470.out) | exact HB.out))) : w.heap.size ≤ gb474)); have n6_ := Aside0.mk ((by rw [hg]; exact Nat.ne_of_lt (blk_lt (g := gb470) (o := .cells #[.int .i64 t467, .int .i64 t468] 27 (0, 0)) (by (with_reducible repeat (first | refine blk_drewN ?_ _ | refine blk_drew ?_ | refine blk_alloc ?_ _)); exact BK470.out)) : gb470 ≠ gb474)); have n7_ := Aside0.mk ((by rw [hg]; exact Nat.ne_of_gt (blk_lt (g := gb470) (o := .cells #[.int .i64 t467, .int .i64 t468] 27 (0, 0)) (by (with_reducible repeat (first | refine blk_drewN ?_ _ | refine blk_drew ?_ | refine blk_alloc ?_ _)); exact BK470.out)) : gb474 ≠ gb470)); clear HO_10; clear BK470; clear HB; have HO_10 := n0_; have BK470 := n1_; have HB := n2_; have BK474 := n3_; have GW474 := n4_; have GE474 := n5_; have NB470_474 := n6_; have NB474_470 := n7_; clear n0_ n1_ n2_ n3_ n4_ n5_ n6_ n7_; clear hb hbox hg; have hnb54 := NB474_470.out; have hnc54 := NB470_474.out; have hcz55_0 : w53.cell? ⟨gb474, 0, none⟩ = some (.int .i64 0) := (blk_cell BK474.out 0).trans rfl; have hcz55_1 : w53.cell? ⟨gb474, 1, none⟩ = some (.int .i64 0) := (blk_cell BK474.out 1).trans rfl; have hfz55_0 := blk_frozen BK474.out 0; have hfz55_1 := blk_frozen BK474.out 1) | ((with_reducible refine gate_callee (f := 17) rfl ?_); refine goesL_ (some 85) rfl rfl Tryd.func17 (by kernel_rfl) rfl #[.int .i64 t469] rfl hL_ ?_; (with_reducible refine (sleuthlaw0_Num.calls t469 t475 _ A36.out).mono ?_); rintro e w' ⟨rfl, ⟨nd, rfl⟩⟩; refine ⟨_, rfl, ?_⟩) | (go_at_call 17; (with_reducible refine (sleuthlaw0_Num.calls t473 t476 _ A38.out).mono ?_); rintro e w' ⟨rfl, ⟨nd, rfl⟩⟩; have hcz56_0 : w53.cell? ⟨gb470, 0, none⟩ = some (.int .i64 t467) := (blk_cell BK470.out 0).trans rfl; have hcz56_1 : w53.cell? ⟨gb470, 1, none⟩ = some (.int .i64 t468) := (blk_cell BK470.out 1).trans rfl; have hfz56_0 := blk_frozen BK470.out 0; have hfz56_1 := blk_frozen BK470.out 1))
                              go_ret
                              exact ⟨by first | rfl | (simp [errW_none, errW_some] <;> rfl) | (simp only [← hji11]; first | rfl | (simp [errW_none, errW_some] <;> rfl)) | (simp [*, errW_none, errW_some] <;> rfl), by repeat (first | (with_reducible first | exact HB.out | apply below_alloc | apply pw_below_drewN | apply below_drew1 | refine below_set ?_ GE470.out | refine below_set ?_ GE474.out) | exact HB.out)⟩
                          · replace c40 := Bool.eq_false_iff.mpr c40
                            subst c40
                            have H1 : (if 0 < (l1.length : Int) then (if (rd l1 0) = 2 then (some true) else (if ji11 = 0 then (some true) else (some (t467 == t471 && (t468 == t472))))) else (none)) = some r := by rw [if_neg (show ¬ (false = true) by decide)] at H; exact H
                            clear H
                            have H := H1
                            clear H1
                            by_cases c57 : 0 < (l1.length : Int)
                            · rw [if_pos c57] at H
                              have c57b0 : decide (0 < (l1.length : Int)) = true := decide_eq_true c57
                              (try (have c57b0hl10_1 := c57b0; rw [hl10_1] at c57b0hl10_1))
                              have c57b1 : decide (0 < l1.length) = true := decide_eq_true (by omega)
                              clear c57
                              by_cases c58 : (rd l1 0) = 2
                              · rw [if_pos c58] at H
                                have c58b0 : ((rd l1 0) == 2) = true := beq_iff_eq.mpr c58
                                have c58b1 : ((rd l1 0) != 2) = false := bne_eq_false_iff_eq.mpr c58
                                clear c58
                                obtain rfl := Option.some.inj H
                                go_wp2_with (first | ((with_reducible refine gate_callee (f := 15) rfl ?_); refine goesL_ (some 75) rfl rfl Tryd.func15 (by kernel_rfl) rfl #[.slice (some ad459) l0.length c0, .slice A1 l1.length c1] rfl hL_ ?_; (with_reducible refine (top_Next.calls k1 _ _ l0 _ _ l1 t467 t468 t469 _ ?side1 ?side2 ?side3 ?side4 A34.out hG_).mono ?_); (case side1 => repeat (first | exact (Kd.C_below HR0.out HB.out) | (with_reducible refine Kd.C_alloc ?_ _) | (with_reducible refine Kd.C_drewN ?_ _) | (with_reducible refine Kd.C_drew ?_))); (case side2 => exact HC0.out); (case side3 => repeat (first | exact (Kd.C_below HR1.out HB.out) | (with_reducible refine Kd.C_alloc ?_ _) | (with_reducible refine Kd.C_drewN ?_ _) | (with_reducible refine Kd.C_drew ?_))); (case side4 => exact HC1.out); rintro e w59 ⟨rfl, hb⟩; refine ⟨_, rfl, ?_⟩; have n0_ := Aside0.mk (Kd.R_below (hR_ HO_10.out) hb); have n1_ := Aside0.mk (below_step hB_ hb); clear HO_10; clear HB; have HO_10 := n0_; have HB := n1_; clear n0_ n1_; (try clear hb); (try clear hb2); (try clear hk); (try clear hi)) | ((with_reducible refine gate_dst (N := 13) rfl ?_); refine box_event ?hg (N := 13) ?hd (cs := #[.int .i64 0, .int .i64 0]) (t := 27) ?hr ?_; (case hd => rfl); (case hg => rfl); (case hr => first | (go_simp; done) | (go_simp; rfl)); intro gb470 hg w60 hbox hb; have n0_ := Aside0.mk (Kd.R_below (hR_ HO_10.out) hb); have n1_ := Aside0.mk (below_step hB_ hb); have n2_ := Aside0.mk (hbox); have n3_ := Aside0.mk ((by rw [hg]; exact hS_ : w.heap.size ≤ gb470)); have n4_ := Aside0.mk ((by rw [hg]; exact hS_ : w.heap.size ≤ gb470)); clear HO_10; clear HB; have HO_10 := n0_; have HB := n1_; have BK470 := n2_; have GW470 := n3_; have GE470 := n4_; clear n0_ n1_ n2_ n3_ n4_; clear hb hbox hg; have hcz61_0 : w60.cell? ⟨gb470, 0, none⟩ = some (.int .i64 0) := (blk_cell BK470.out 0).trans rfl; have hcz61_1 : w60.cell? ⟨gb470, 1, none⟩ = some (.int .i64 0) := (blk_cell BK470.out 1).trans rfl; have hfz61_0 := blk_frozen BK470.out 0; have hfz61_1 := blk_frozen BK470.out 1) | ((with_reducible refine gate_callee (f := 15) rfl ?_); refine goesL_ (some 81) rfl rfl Tryd.func15 (by kernel_rfl) rfl #[.slice (some ad459) l0.length c0, .slice (some ⟨go14, 0, none⟩) y458.length co14] rfl hL_ ?_; (with_reducible refine (top_Next.calls k1 _ _ l0 _ _ y458 t471 t472 t473 _ ?side1 ?side2 ?side3 ?side4 A35.out (by first | exact hG | exact GOK.below hG (by repeat (first | (with_reducible first | exact HB.out | apply below_alloc | apply pw_below_drewN | apply below_drew1 | refine below_set ?_ GE470.out) | exact HB.out)))).mono ?_); (case side1 => exact Kd.C_below HR0.out (by repeat (first | (with_reducible first | exact HB.out | apply below_alloc | apply pw_below_drewN | apply below_drew1 | refine below_set ?_ GE470.out) | exact HB.out))); (case side2 => exact HC0.out); (case side3 => refine (Kd.R_reads' (e := 3) (base := w.heap.size) (ok := fun k_ => True) (n := y458.length) (c := co14) ?_).2.2; exact (by (with_reducible repeat (first | apply Kd.R_alloc | apply Kd.R_drewN | apply Kd.R_drew)); exact (Kd.R_mono (Kd.R_far (p := ⟨gb470, 1, none⟩) (Kd.R_far (p := ⟨gb470, 0, none⟩) (Kd.R_types HO_10.out BK470.out (by decide)) (fun _ hk => hk.2) (.int .i64 t467)) (fun _ hk => hk.2) (.int .i64 t468)) (fun _ h_ => h_.1)))); (case side4 => exact (Kd.R_reads' HO_10.out).2.1); rintro e w62 ⟨rfl, hb⟩; refine ⟨_, rfl, ?_⟩; have n0_ := Aside0.mk (Kd.R_below (by (with_reducible repeat (first | apply Kd.R_alloc | apply Kd.R_drewN | apply Kd.R_drew)); exact (Kd.R_mono (Kd.R_far (p := ⟨gb470, 1, none⟩) (Kd.R_far (p := ⟨gb470, 0, none⟩) (Kd.R_types HO_10.out BK470.out (by decide)) (fun _ hk => hk.2) (.int .i64 t467)) (fun _ hk => hk.2) (.int .i64 t468)) (fun _ h_ => h_.1))) hb); have n1_ := Aside0.mk (blk_below (g := gb470) (o := .cells #[.int .i64 t467, .int .i64 t468] 27 (0, 0)) (by (with_reducible repeat (first | refine blk_drewN ?_ _ | refine blk_drew ?_ | refine blk_alloc ?_ _)); refine blk_put (cs := #[.int .i64 t467, .int .i64 0]) ?_ 1 _ rfl; (with_reducible repeat (first | refine blk_drewN ?_ _ | refine blk_drew ?_ | refine blk_alloc ?_ _)); refine blk_put (cs := #[.int .i64 0, .int .i64 0]) ?_ 0 _ rfl; (with_reducible repeat (first | refine blk_drewN ?_ _ | refine blk_drew ?_ | refine blk_alloc ?_ _)); exact BK470.out) hb); have n2_ := Aside0.mk (below_step (by repeat (first | (with_reducible first | exact HB.out | apply below_alloc | apply pw_below_drewN | apply below_drew1 | refine below_set ?_ GE470.out) | exact HB.out)) hb); clear HO_10; clear BK470; clear HB; have HO_10 := n0_; have BK470 := n1_; have HB := n2_; clear n0_ n1_ n2_; (try clear hb); (try clear hb2); (try clear hk); (try clear hi)) | ((with_reducible refine gate_dst (N := 15) rfl ?_); refine box_event ?hg (N := 15) ?hd (cs := #[.int .i64 0, .int .i64 0]) (t := 27) ?hr ?_; (case hd => rfl); (case hg => rfl); (case hr => first | (go_simp; done) | (go_simp; rfl)); intro gb474 hg w63 hbox hb; have n0_ := Aside0.mk (Kd.R_below (hR_ HO_10.out) hb); have n1_ := Aside0.mk (blk_below (g := gb470) (o := .cells #[.int .i64 t467, .int .i64 t468] 27 (0, 0)) (by (with_reducible repeat (first | refine blk_drewN ?_ _ | refine blk_drew ?_ | refine blk_alloc ?_ _)); exact BK470.out) hb); have n2_ := Aside0.mk (below_step (by repeat (first | (with_reducible first | exact HB.out | apply below_alloc | apply pw_below_drewN | apply below_drew1 | refine below_set ?_ GE470.out) | exact HB.out)) hb); have n3_ := Aside0.mk (hbox); have n4_ := Aside0.mk ((by rw [hg]; exact (below_size (by repeat (first | (with_reducible first | exact HB.out | apply below_alloc | apply pw_below_drewN | apply below_drew1 | refine below_set ?_ GE470.out) | exact HB.out))) : w.heap.size ≤ gb474)); have n5_ := Aside0.mk ((by rw [hg]; exact (below_size (by repeat (first | (with_reducible first | exact HB.out | apply below_alloc | apply pw_below_drewN | apply below_drew1 | refine below_set ?_ GE470.out) | exact HB.out))) : w.heap.size ≤ gb474)); have n6_ := Aside0.mk ((by rw [hg]; exact Nat.ne_of_lt (blk_lt (g := gb470) (o := .cells #[.int .i64 t467, .int .i64 t468] 27 (0, 0)) (by (with_reducible repeat (first | refine blk_drewN ?_ _ | refine blk_drew ?_ | refine blk_alloc ?_ _)); exact BK470.out)) : gb470 ≠ gb474)); have n7_ := Aside0.mk ((by rw [hg]; exact Nat.ne_of_gt (blk_lt (g := gb470) (o := .cells #[.int .i64 t467, .int .i64 t468] 27 (0, 0)) (by (with_reducible repeat (first | refine blk_drewN ?_ _ | refine blk_drew ?_ | refine blk_alloc ?_ _)); exact BK470.out)) : gb474 ≠ gb470)); clear HO_10; clear BK470; clear HB; have HO_10 := n0_; have BK470 := n1_; have HB := n2_; have BK474 := n3_; have GW474 := n4_; have GE474 := n5_; have NB470_474 := n6_; have NB474_470 := n7_; clear n0_ n1_ n2_ n3_ n4_ n5_ n6_ n7_; clear hb hbox hg; have hnb64 := NB474_470.out; have hnc64 := NB470_474.out; have hcz65_0 : w63.cell? ⟨gb474, 0, none⟩ = some (.int .i64 0) := (blk_cell BK474.out 0).trans rfl; have hcz65_1 : w63.cell? ⟨gb474, 1, none⟩ = some (.int .i64 0) := (blk_cell BK474.out 1).trans rfl; have hfz65_0 := blk_frozen BK474.out 0; have hfz65_1 := blk_frozen BK474.out 1) | ((with_reducible refine gate_callee (f := 17) rfl ?_); refine goesL_ (some 85) rfl rfl Tryd.func17 (by kernel_rfl) rfl #[.int .i64 t469] rfl hL_ ?_; (with_reducible refine (sleuthlaw0_Num.calls t469 t475 _ A36.out).mono ?_); rintro e w' ⟨rfl, ⟨nd, rfl⟩⟩; refine ⟨_, rfl, ?_⟩) | (go_at_call 17; (with_reducible refine (sleuthlaw0_Num.calls t473 t476 _ A38.out).mono ?_); rintro e w' ⟨rfl, ⟨nd, rfl⟩⟩; have p477 : 0 ≤ (0 : Int) := (by omega); have q477 : 0 < (l1.length : Int) := of_decide_eq_true hA_; obtain ⟨ad477, e477, hx477_0⟩ := Kd.at_int HR1.out 0 p477 q477; cases e477; have qi477 : (0 < l1.length) = True := eq_true (by omega); (try rw [show ((0 : Int)).toNat = 0 from rfl] at hx477_0); (try rw [Addr.add_zero'] at hx477_0); have hn477_0 : ad477.block ≠ gb474 := Nat.ne_of_lt (Nat.lt_of_lt_of_le (by have := World.block_lt_of_cell? _ _ hx477_0; first | rwa [add_block] at this | exact this) GW474.out); have hn477_1 : ad477.block ≠ gb474 := Nat.ne_of_lt (Nat.lt_of_lt_of_le (by have := World.block_lt_of_cell? _ _ hx477_0; first | rwa [add_block] at this | exact this) GW474.out); replace hx477_0 := (HB.out.cell (World.block_lt_of_cell? w _ hx477_0)).trans hx477_0; replace hx477_0 := (cell_far (p := ⟨gb474, 0, none⟩) (by first | (rw [add_block]; exact hn477_0) | (show (Addr.add _ _).block ≠ _; rw [add_block]; exact hn477_0) | exact hn477_0) (.int .i64 t471)).trans hx477_0; replace hx477_0 := (cell_far (p := ⟨gb474, 1, none⟩) (by first | (rw [add_block]; exact hn477_1) | (show (Addr.add _ _).block ≠ _; rw [add_block]; exact hn477_1) | exact hn477_1) (.int .i64 t472)).trans hx477_0; clear hn477_0; clear hn477_1; replace p477 := eq_true p477; replace q477 := eq_true q477))
                                go_ret
                                exact ⟨by first | rfl | (simp [errW_none, errW_some] <;> rfl) | (simp only [← hji11]; first | rfl | (simp [errW_none, errW_some] <;> rfl)) | (simp [*, errW_none, errW_some] <;> rfl), by repeat (first | (with_reducible first | exact HB.out | apply below_alloc | apply pw_below_drewN | apply below_drew1 | refine below_set ?_ GE470.out | refine below_set ?_ GE474.out) | exact HB.out)⟩
                              · rw [if_neg c58] at H
                                have c58b0 : ((rd l1 0) == 2) = false := beq_eq_false_iff_ne.mpr c58
                                have c58b1 : ((rd l1 0) != 2) = true := bne_iff_ne.mpr c58
                                by_cases c66 : ji11 = 0
                                · rw [if_pos c66] at H
                                  have c66b0 : (ji11 == 0) = true := beq_iff_eq.mpr c66
                                  have c66b1 : (ji11 != 0) = false := bne_eq_false_iff_eq.mpr c66
                                  clear c66
                                  obtain rfl := Option.some.inj H
                                  go_wp2_with (first | ((with_reducible refine gate_callee (f := 15) rfl ?_); refine goesL_ (some 75) rfl rfl Tryd.func15 (by kernel_rfl) rfl #[.slice (some ad459) l0.length c0, .slice A1 l1.length c1] rfl hL_ ?_; (with_reducible refine (top_Next.calls k1 _ _ l0 _ _ l1 t467 t468 t469 _ ?side1 ?side2 ?side3 ?side4 A34.out hG_).mono ?_); (case side1 => repeat (first | exact (Kd.C_below HR0.out HB.out) | (with_reducible refine Kd.C_alloc ?_ _) | (with_reducible refine Kd.C_drewN ?_ _) | (with_reducible refine Kd.C_drew ?_))); (case side2 => exact HC0.out); (case side3 => repeat (first | exact (Kd.C_below HR1.out HB.out) | (with_reducible refine Kd.C_alloc ?_ _) | (with_reducible refine Kd.C_drewN ?_ _) | (with_reducible refine Kd.C_drew ?_))); (case side4 => exact HC1.out); rintro e w67 ⟨rfl, hb⟩; refine ⟨_, rfl, ?_⟩; have n0_ := Aside0.mk (Kd.R_below (hR_ HO_10.out) hb); have n1_ := Aside0.mk (below_step hB_ hb); clear HO_10; clear HB; have HO_10 := n0_; have HB := n1_; clear n0_ n1_; (try clear hb); (try clear hb2); (try clear hk); (try clear hi)) | ((with_reducible refine gate_dst (N := 13) rfl ?_); refine box_event ?hg (N := 13) ?hd (cs := #[.int .i64 0, .int .i64 0]) (t := 27) ?hr ?_; (case hd => rfl); (case hg => rfl); (case hr => first | (go_simp; done) | (go_simp; rfl)); intro gb470 hg w68 hbox hb; have n0_ := Aside0.mk (Kd.R_below (hR_ HO_10.out) hb); have n1_ := Aside0.mk (below_step hB_ hb); have n2_ := Aside0.mk (hbox); have n3_ := Aside0.mk ((by rw [hg]; exact hS_ : w.heap.size ≤ gb470)); have n4_ := Aside0.mk ((by rw [hg]; exact hS_ : w.heap.size ≤ gb470)); clear HO_10; clear HB; have HO_10 := n0_; have HB := n1_; have BK470 := n2_; have GW470 := n3_; have GE470 := n4_; clear n0_ n1_ n2_ n3_ n4_; clear hb hbox hg; have hcz69_0 : w68.cell? ⟨gb470, 0, none⟩ = some (.int .i64 0) := (blk_cell BK470.out 0).trans rfl; have hcz69_1 : w68.cell? ⟨gb470, 1, none⟩ = some (.int .i64 0) := (blk_cell BK470.out 1).trans rfl; have hfz69_0 := blk_frozen BK470.out 0; have hfz69_1 := blk_frozen BK470.out 1) | ((with_reducible refine gate_callee (f := 15) rfl ?_); refine goesL_ (some 81) rfl rfl Tryd.func15 (by kernel_rfl) rfl #[.slice (some ad459) l0.length c0, .slice (some ⟨go14, 0, none⟩) y458.length co14] rfl hL_ ?_; (with_reducible refine (top_Next.calls k1 _ _ l0 _ _ y458 t471 t472 t473 _ ?side1 ?side2 ?side3 ?side4 A35.out (by first | exact hG | exact GOK.below hG (by repeat (first | (with_reducible first | exact HB.out | apply below_alloc | apply pw_below_drewN | apply below_drew1 | refine below_set ?_ GE470.out) | exact HB.out)))).mono ?_); (case side1 => exact Kd.C_below HR0.out (by repeat (first | (with_reducible first | exact HB.out | apply below_alloc | apply pw_below_drewN | apply below_drew1 | refine below_set ?_ GE470.out) | exact HB.out))); (case side2 => exact HC0.out); (case side3 => refine (Kd.R_reads' (e := 3) (base := w.heap.size) (ok := fun k_ => True) (n := y458.length) (c := co14) ?_).2.2; exact (by (with_reducible repeat (first | apply Kd.R_alloc | apply Kd.R_drewN | apply Kd.R_drew)); exact (Kd.R_mono (Kd.R_far (p := ⟨gb470, 1, none⟩) (Kd.R_far (p := ⟨gb470, 0, none⟩) (Kd.R_types HO_10.out BK470.out (by decide)) (fun _ hk => hk.2) (.int .i64 t467)) (fun _ hk => hk.2) (.int .i64 t468)) (fun _ h_ => h_.1)))); (case side4 => exact (Kd.R_reads' HO_10.out).2.1); rintro e w70 ⟨rfl, hb⟩; refine ⟨_, rfl, ?_⟩; have n0_ := Aside0.mk (Kd.R_below (by (with_reducible repeat (first | apply Kd.R_alloc | apply Kd.R_drewN | apply Kd.R_drew)); exact (Kd.R_mono (Kd.R_far (p := ⟨gb470, 1, none⟩) (Kd.R_far (p := ⟨gb470, 0, none⟩) (Kd.R_types HO_10.out BK470.out (by decide)) (fun _ hk => hk.2) (.int .i64 t467)) (fun _ hk => hk.2) (.int .i64 t468)) (fun _ h_ => h_.1))) hb); have n1_ := Aside0.mk (blk_below (g := gb470) (o := .cells #[.int .i64 t467, .int .i64 t468] 27 (0, 0)) (by (with_reducible repeat (first | refine blk_drewN ?_ _ | refine blk_drew ?_ | refine blk_alloc ?_ _)); refine blk_put (cs := #[.int .i64 t467, .int .i64 0]) ?_ 1 _ rfl; (with_reducible repeat (first | refine blk_drewN ?_ _ | refine blk_drew ?_ | refine blk_alloc ?_ _)); refine blk_put (cs := #[.int .i64 0, .int .i64 0]) ?_ 0 _ rfl; (with_reducible repeat (first | refine blk_drewN ?_ _ | refine blk_drew ?_ | refine blk_alloc ?_ _)); exact BK470.out) hb); have n2_ := Aside0.mk (below_step (by repeat (first | (with_reducible first | exact HB.out | apply below_alloc | apply pw_below_drewN | apply below_drew1 | refine below_set ?_ GE470.out) | exact HB.out)) hb); clear HO_10; clear BK470; clear HB; have HO_10 := n0_; have BK470 := n1_; have HB := n2_; clear n0_ n1_ n2_; (try clear hb); (try clear hb2); (try clear hk); (try clear hi)) | ((with_reducible refine gate_dst (N := 15) rfl ?_); refine box_event ?hg (N := 15) ?hd (cs := #[.int .i64 0, .int .i64 0]) (t := 27) ?hr ?_; (case hd => rfl); (case hg => rfl); (case hr => first | (go_simp; done) | (go_simp; rfl)); intro gb474 hg w71 hbox hb; have n0_ := Aside0.mk (Kd.R_below (hR_ HO_10.out) hb); have n1_ := Aside0.mk (blk_below (g := gb470) (o := .cells #[.int .i64 t467, .int .i64 t468] 27 (0, 0)) (by (with_reducible repeat (first | refine blk_drewN ?_ _ | refine blk_drew ?_ | refine blk_alloc ?_ _)); exact BK470.out) hb); have n2_ := Aside0.mk (below_step (by repeat (first | (with_reducible first | exact HB.out | apply below_alloc | apply pw_below_drewN | apply below_drew1 | refine below_set ?_ GE470.out) | exact HB.out)) hb); have n3_ := Aside0.mk (hbox); have n4_ := Aside0.mk ((by rw [hg]; exact (below_size (by repeat (first | (with_reducible first | exact HB.out | apply below_alloc | apply pw_below_drewN | apply below_drew1 | refine below_set ?_ GE470.out) | exact HB.out))) : w.heap.size ≤ gb474)); have n5_ := Aside0.mk ((by rw [hg]; exact (below_size (by repeat (first | (with_reducible first | exact HB.out | apply below_alloc | apply pw_below_drewN | apply below_drew1 | refine below_set ?_ GE470.out) | exact HB.out))) : w.heap.size ≤ gb474)); have n6_ := Aside0.mk ((by rw [hg]; exact Nat.ne_of_lt (blk_lt (g := gb470) (o := .cells #[.int .i64 t467, .int .i64 t468] 27 (0, 0)) (by (with_reducible repeat (first | refine blk_drewN ?_ _ | refine blk_drew ?_ | refine blk_alloc ?_ _)); exact BK470.out)) : gb470 ≠ gb474)); have n7_ := Aside0.mk ((by rw [hg]; exact Nat.ne_of_gt (blk_lt (g := gb470) (o := .cells #[.int .i64 t467, .int .i64 t468] 27 (0, 0)) (by (with_reducible repeat (first | refine blk_drewN ?_ _ | refine blk_drew ?_ | refine blk_alloc ?_ _)); exact BK470.out)) : gb474 ≠ gb470)); clear HO_10; clear BK470; clear HB; have HO_10 := n0_; have BK470 := n1_; have HB := n2_; have BK474 := n3_; have GW474 := n4_; have GE474 := n5_; have NB470_474 := n6_; have NB474_470 := n7_; clear n0_ n1_ n2_ n3_ n4_ n5_ n6_ n7_; clear hb hbox hg; have hnb72 := NB474_470.out; have hnc72 := NB470_474.out; have hcz73_0 : w71.cell? ⟨gb474, 0, none⟩ = some (.int .i64 0) := (blk_cell BK474.out 0).trans rfl; have hcz73_1 : w71.cell? ⟨gb474, 1, none⟩ = some (.int .i64 0) := (blk_cell BK474.out 1).trans rfl; have hfz73_0 := blk_frozen BK474.out 0; have hfz73_1 := blk_frozen BK474.out 1) | ((with_reducible refine gate_callee (f := 17) rfl ?_); refine goesL_ (some 85) rfl rfl Tryd.func17 (by kernel_rfl) rfl #[.int .i64 t469] rfl hL_ ?_; (with_reducible refine (sleuthlaw0_Num.calls t469 t475 _ A36.out).mono ?_); rintro e w' ⟨rfl, ⟨nd, rfl⟩⟩; refine ⟨_, rfl, ?_⟩) | (go_at_call 17; (with_reducible refine (sleuthlaw0_Num.calls t473 t476 _ A38.out).mono ?_); rintro e w' ⟨rfl, ⟨nd, rfl⟩⟩; have p477 : 0 ≤ (0 : Int) := (by omega); have q477 : 0 < (l1.length : Int) := of_decide_eq_true hA_; obtain ⟨ad477, e477, hx477_0⟩ := Kd.at_int HR1.out 0 p477 q477; cases e477; have qi477 : (0 < l1.length) = True := eq_true (by omega); (try rw [show ((0 : Int)).toNat = 0 from rfl] at hx477_0); (try rw [Addr.add_zero'] at hx477_0); have hn477_0 : ad477.block ≠ gb474 := Nat.ne_of_lt (Nat.lt_of_lt_of_le (by have := World.block_lt_of_cell? _ _ hx477_0; first | rwa [add_block] at this | exact this) GW474.out); have hn477_1 : ad477.block ≠ gb474 := Nat.ne_of_lt (Nat.lt_of_lt_of_le (by have := World.block_lt_of_cell? _ _ hx477_0; first | rwa [add_block] at this | exact this) GW474.out); replace hx477_0 := (HB.out.cell (World.block_lt_of_cell? w _ hx477_0)).trans hx477_0; replace hx477_0 := (cell_far (p := ⟨gb474, 0, none⟩) (by first | (rw [add_block]; exact hn477_0) | (show (Addr.add _ _).block ≠ _; rw [add_block]; exact hn477_0) | exact hn477_0) (.int .i64 t471)).trans hx477_0; replace hx477_0 := (cell_far (p := ⟨gb474, 1, none⟩) (by first | (rw [add_block]; exact hn477_1) | (show (Addr.add _ _).block ≠ _; rw [add_block]; exact hn477_1) | exact hn477_1) (.int .i64 t472)).trans hx477_0; clear hn477_0; clear hn477_1; replace p477 := eq_true p477; replace q477 := eq_true q477))
                                  go_ret
                                  exact ⟨by first | rfl | (simp [errW_none, errW_some] <;> rfl) | (simp only [← hji11]; first | rfl | (simp [errW_none, errW_some] <;> rfl)) | (simp [*, errW_none, errW_some] <;> rfl), by repeat (first | (with_reducible first | exact HB.out | apply below_alloc | apply pw_below_drewN | apply below_drew1 | refine below_set ?_ GE470.out | refine below_set ?_ GE474.out) | exact HB.out)⟩
                                · rw [if_neg c66] at H
                                  have c66b0 : (ji11 == 0) = false := beq_eq_false_iff_ne.mpr c66
                                  have c66b1 : (ji11 != 0) = true := bne_iff_ne.mpr c66
                                  obtain rfl := Option.some.inj H
                                  go_wp2_with (first | ((with_reducible refine gate_callee (f := 15) rfl ?_); refine goesL_ (some 75) rfl rfl Tryd.func15 (by kernel_rfl) rfl #[.slice (some ad459) l0.length c0, .slice A1 l1.length c1] rfl hL_ ?_; (with_reducible refine (top_Next.calls k1 _ _ l0 _ _ l1 t467 t468 t469 _ ?side1 ?side2 ?side3 ?side4 A34.out hG_).mono ?_); (case side1 => repeat (first | exact (Kd.C_below HR0.out HB.out) | (with_reducible refine Kd.C_alloc ?_ _) | (with_reducible refine Kd.C_drewN ?_ _) | (with_reducible refine Kd.C_drew ?_))); (case side2 => exact HC0.out); (case side3 => repeat (first | exact (Kd.C_below HR1.out HB.out) | (with_reducible refine Kd.C_alloc ?_ _) | (with_reducible refine Kd.C_drewN ?_ _) | (with_reducible refine Kd.C_drew ?_))); (case side4 => exact HC1.out); rintro e w74 ⟨rfl, hb⟩; refine ⟨_, rfl, ?_⟩; have n0_ := Aside0.mk (Kd.R_below (hR_ HO_10.out) hb); have n1_ := Aside0.mk (below_step hB_ hb); clear HO_10; clear HB; have HO_10 := n0_; have HB := n1_; clear n0_ n1_; (try clear hb); (try clear hb2); (try clear hk); (try clear hi)) | ((with_reducible refine gate_dst (N := 13) rfl ?_); refine box_event ?hg (N := 13) ?hd (cs := #[.int .i64 0, .int .i64 0]) (t := 27) ?hr ?_; (case hd => rfl); (case hg => rfl); (case hr => first | (go_simp; done) | (go_simp; rfl)); intro gb470 hg w75 hbox hb; have n0_ := Aside0.mk (Kd.R_below (hR_ HO_10.out) hb); have n1_ := Aside0.mk (below_step hB_ hb); have n2_ := Aside0.mk (hbox); have n3_ := Aside0.mk ((by rw [hg]; exact hS_ : w.heap.size ≤ gb470)); have n4_ := Aside0.mk ((by rw [hg]; exact hS_ : w.heap.size ≤ gb470)); clear HO_10; clear HB; have HO_10 := n0_; have HB := n1_; have BK470 := n2_; have GW470 := n3_; have GE470 := n4_; clear n0_ n1_ n2_ n3_ n4_; clear hb hbox hg; have hcz76_0 : w75.cell? ⟨gb470, 0, none⟩ = some (.int .i64 0) := (blk_cell BK470.out 0).trans rfl; have hcz76_1 : w75.cell? ⟨gb470, 1, none⟩ = some (.int .i64 0) := (blk_cell BK470.out 1).trans rfl; have hfz76_0 := blk_frozen BK470.out 0; have hfz76_1 := blk_frozen BK470.out 1) | ((with_reducible refine gate_callee (f := 15) rfl ?_); refine goesL_ (some 81) rfl rfl Tryd.func15 (by kernel_rfl) rfl #[.slice (some ad459) l0.length c0, .slice (some ⟨go14, 0, none⟩) y458.length co14] rfl hL_ ?_; (with_reducible refine (top_Next.calls k1 _ _ l0 _ _ y458 t471 t472 t473 _ ?side1 ?side2 ?side3 ?side4 A35.out (by first | exact hG | exact GOK.below hG (by repeat (first | (with_reducible first | exact HB.out | apply below_alloc | apply pw_below_drewN | apply below_drew1 | refine below_set ?_ GE470.out) | exact HB.out)))).mono ?_); (case side1 => exact Kd.C_below HR0.out (by repeat (first | (with_reducible first | exact HB.out | apply below_alloc | apply pw_below_drewN | apply below_drew1 | refine below_set ?_ GE470.out) | exact HB.out))); (case side2 => exact HC0.out); (case side3 => refine (Kd.R_reads' (e := 3) (base := w.heap.size) (ok := fun k_ => True) (n := y458.length) (c := co14) ?_).2.2; exact (by (with_reducible repeat (first | apply Kd.R_alloc | apply Kd.R_drewN | apply Kd.R_drew)); exact (Kd.R_mono (Kd.R_far (p := ⟨gb470, 1, none⟩) (Kd.R_far (p := ⟨gb470, 0, none⟩) (Kd.R_types HO_10.out BK470.out (by decide)) (fun _ hk => hk.2) (.int .i64 t467)) (fun _ hk => hk.2) (.int .i64 t468)) (fun _ h_ => h_.1)))); (case side4 => exact (Kd.R_reads' HO_10.out).2.1); rintro e w77 ⟨rfl, hb⟩; refine ⟨_, rfl, ?_⟩; have n0_ := Aside0.mk (Kd.R_below (by (with_reducible repeat (first | apply Kd.R_alloc | apply Kd.R_drewN | apply Kd.R_drew)); exact (Kd.R_mono (Kd.R_far (p := ⟨gb470, 1, none⟩) (Kd.R_far (p := ⟨gb470, 0, none⟩) (Kd.R_types HO_10.out BK470.out (by decide)) (fun _ hk => hk.2) (.int .i64 t467)) (fun _ hk => hk.2) (.int .i64 t468)) (fun _ h_ => h_.1))) hb); have n1_ := Aside0.mk (blk_below (g := gb470) (o := .cells #[.int .i64 t467, .int .i64 t468] 27 (0, 0)) (by (with_reducible repeat (first | refine blk_drewN ?_ _ | refine blk_drew ?_ | refine blk_alloc ?_ _)); refine blk_put (cs := #[.int .i64 t467, .int .i64 0]) ?_ 1 _ rfl; (with_reducible repeat (first | refine blk_drewN ?_ _ | refine blk_drew ?_ | refine blk_alloc ?_ _)); refine blk_put (cs := #[.int .i64 0, .int .i64 0]) ?_ 0 _ rfl; (with_reducible repeat (first | refine blk_drewN ?_ _ | refine blk_drew ?_ | refine blk_alloc ?_ _)); exact BK470.out) hb); have n2_ := Aside0.mk (below_step (by repeat (first | (with_reducible first | exact HB.out | apply below_alloc | apply pw_below_drewN | apply below_drew1 | refine below_set ?_ GE470.out) | exact HB.out)) hb); clear HO_10; clear BK470; clear HB; have HO_10 := n0_; have BK470 := n1_; have HB := n2_; clear n0_ n1_ n2_; (try clear hb); (try clear hb2); (try clear hk); (try clear hi)) | ((with_reducible refine gate_dst (N := 15) rfl ?_); refine box_event ?hg (N := 15) ?hd (cs := #[.int .i64 0, .int .i64 0]) (t := 27) ?hr ?_; (case hd => rfl); (case hg => rfl); (case hr => first | (go_simp; done) | (go_simp; rfl)); intro gb474 hg w78 hbox hb; have n0_ := Aside0.mk (Kd.R_below (hR_ HO_10.out) hb); have n1_ := Aside0.mk (blk_below (g := gb470) (o := .cells #[.int .i64 t467, .int .i64 t468] 27 (0, 0)) (by (with_reducible repeat (first | refine blk_drewN ?_ _ | refine blk_drew ?_ | refine blk_alloc ?_ _)); exact BK470.out) hb); have n2_ := Aside0.mk (below_step (by repeat (first | (with_reducible first | exact HB.out | apply below_alloc | apply pw_below_drewN | apply below_drew1 | refine below_set ?_ GE470.out) | exact HB.out)) hb); have n3_ := Aside0.mk (hbox); have n4_ := Aside0.mk ((by rw [hg]; exact (below_size (by repeat (first | (with_reducible first | exact HB.out | apply below_alloc | apply pw_below_drewN | apply below_drew1 | refine below_set ?_ GE470.out) | exact HB.out))) : w.heap.size ≤ gb474)); have n5_ := Aside0.mk ((by rw [hg]; exact (below_size (by repeat (first | (with_reducible first | exact HB.out | apply below_alloc | apply pw_below_drewN | apply below_drew1 | refine below_set ?_ GE470.out) | exact HB.out))) : w.heap.size ≤ gb474)); have n6_ := Aside0.mk ((by rw [hg]; exact Nat.ne_of_lt (blk_lt (g := gb470) (o := .cells #[.int .i64 t467, .int .i64 t468] 27 (0, 0)) (by (with_reducible repeat (first | refine blk_drewN ?_ _ | refine blk_drew ?_ | refine blk_alloc ?_ _)); exact BK470.out)) : gb470 ≠ gb474)); have n7_ := Aside0.mk ((by rw [hg]; exact Nat.ne_of_gt (blk_lt (g := gb470) (o := .cells #[.int .i64 t467, .int .i64 t468] 27 (0, 0)) (by (with_reducible repeat (first | refine blk_drewN ?_ _ | refine blk_drew ?_ | refine blk_alloc ?_ _)); exact BK470.out)) : gb474 ≠ gb470)); clear HO_10; clear BK470; clear HB; have HO_10 := n0_; have BK470 := n1_; have HB := n2_; have BK474 := n3_; have GW474 := n4_; have GE474 := n5_; have NB470_474 := n6_; have NB474_470 := n7_; clear n0_ n1_ n2_ n3_ n4_ n5_ n6_ n7_; clear hb hbox hg; have hnb79 := NB474_470.out; have hnc79 := NB470_474.out; have hcz80_0 : w78.cell? ⟨gb474, 0, none⟩ = some (.int .i64 0) := (blk_cell BK474.out 0).trans rfl; have hcz80_1 : w78.cell? ⟨gb474, 1, none⟩ = some (.int .i64 0) := (blk_cell BK474.out 1).trans rfl; have hfz80_0 := blk_frozen BK474.out 0; have hfz80_1 := blk_frozen BK474.out 1) | ((with_reducible refine gate_callee (f := 17) rfl ?_); refine goesL_ (some 85) rfl rfl Tryd.func17 (by kernel_rfl) rfl #[.int .i64 t469] rfl hL_ ?_; (with_reducible refine (sleuthlaw0_Num.calls t469 t475 _ A36.out).mono ?_); rintro e w' ⟨rfl, ⟨nd, rfl⟩⟩; refine ⟨_, rfl, ?_⟩) | (go_at_call 17; (with_reducible refine (sleuthlaw0_Num.calls t473 t476 _ A38.out).mono ?_); rintro e w' ⟨rfl, ⟨nd, rfl⟩⟩; have p477 : 0 ≤ (0 : Int) := (by omega); have q477 : 0 < (l1.length : Int) := of_decide_eq_true hA_; obtain ⟨ad477, e477, hx477_0⟩ := Kd.at_int HR1.out 0 p477 q477; cases e477; have qi477 : (0 < l1.length) = True := eq_true (by omega); (try rw [show ((0 : Int)).toNat = 0 from rfl] at hx477_0); (try rw [Addr.add_zero'] at hx477_0); have hn477_0 : ad477.block ≠ gb474 := Nat.ne_of_lt (Nat.lt_of_lt_of_le (by have := World.block_lt_of_cell? _ _ hx477_0; first | rwa [add_block] at this | exact this) GW474.out); have hn477_1 : ad477.block ≠ gb474 := Nat.ne_of_lt (Nat.lt_of_lt_of_le (by have := World.block_lt_of_cell? _ _ hx477_0; first | rwa [add_block] at this | exact this) GW474.out); replace hx477_0 := (HB.out.cell (World.block_lt_of_cell? w _ hx477_0)).trans hx477_0; replace hx477_0 := (cell_far (p := ⟨gb474, 0, none⟩) (by first | (rw [add_block]; exact hn477_0) | (show (Addr.add _ _).block ≠ _; rw [add_block]; exact hn477_0) | exact hn477_0) (.int .i64 t471)).trans hx477_0; replace hx477_0 := (cell_far (p := ⟨gb474, 1, none⟩) (by first | (rw [add_block]; exact hn477_1) | (show (Addr.add _ _).block ≠ _; rw [add_block]; exact hn477_1) | exact hn477_1) (.int .i64 t472)).trans hx477_0; clear hn477_0; clear hn477_1; replace p477 := eq_true p477; replace q477 := eq_true q477; have hcz81_0 : w78.cell? ⟨gb470, 0, none⟩ = some (.int .i64 t467) := (blk_cell BK470.out 0).trans rfl; have hcz81_1 : w78.cell? ⟨gb470, 1, none⟩ = some (.int .i64 t468) := (blk_cell BK470.out 1).trans rfl; have hfz81_0 := blk_frozen BK470.out 0; have hfz81_1 := blk_frozen BK470.out 1))
                                  go_ret
                                  exact ⟨by first | rfl | (simp [errW_none, errW_some] <;> rfl) | (simp only [← hji11]; first | rfl | (simp [errW_none, errW_some] <;> rfl)) | (simp [*, errW_none, errW_some] <;> rfl), by repeat (first | (with_reducible first | exact HB.out | apply below_alloc | apply pw_below_drewN | apply below_drew1 | refine below_set ?_ GE470.out | refine below_set ?_ GE474.out) | exact HB.out)⟩
                            · rw [if_neg c57] at H
                              exact absurd H (by simp)
                        · rw [if_neg c39] at H
                          have c39b0 : (t476 == 0) = false := beq_eq_false_iff_ne.mpr c39
                          have c39b1 : (t476 != 0) = true := bne_iff_ne.mpr c39
                          cases H
                      · rw [if_neg c37] at H
                        have c37b0 : (t475 == 0) = false := beq_eq_false_iff_ne.mpr c37
                        have c37b1 : (t475 != 0) = true := bne_iff_ne.mpr c37
                        cases H
              · rw [if_neg c15] at H
                exact absurd H (by simp)
            · rw [if_neg c13] at H
              exact absurd H (by simp)
          · rw [if_neg c12] at H
            exact absurd H (by simp)
        · rw [if_neg c10] at H
          exact absurd H (by simp)
    · replace c8 := Bool.eq_false_iff.mpr c8
      subst c8
      have H1 : (some true) = some r := by rw [if_neg (show ¬ (false = true) by decide)] at H; exact H
      clear H
      have H := H1
      clear H1
      obtain rfl := Option.some.inj H
      go_enter Tryd.func7, Tryd.ntmps7
      go_wp2_with (first | ((with_reducible refine gate_callee (f := 20) rfl ?_); refine goesL_ (some 17) rfl rfl Tryd.func20 (by kernel_rfl) rfl #[] rfl hL_ ?_; (with_reducible refine (sleuthlaw18_awake.calls k  true _ A5.out hG_).mono ?_); rintro e w96 ⟨rfl, hb⟩; refine ⟨_, rfl, ?_⟩; have n0_ := Aside0.mk (below_step hB_ hb); clear HB; have HB := n0_; clear n0_; (try clear hb); (try clear hb2); (try clear hk); (try clear hi)) | ((with_reducible refine gate_callee (f := 22) rfl ?_); refine goesL_ (some 21) rfl rfl Tryd.func22 (by kernel_rfl) rfl #[.slice A0 l0.length c0, .slice A1 l1.length c1] rfl hL_ ?_; (with_reducible refine (sleuthref12_MarksMay.calls k _ _ l0 _ _ l1 false _ ?side1 ?side2 ?side3 ?side4 A7.out).mono ?_); (case side1 => repeat (first | exact (Kd.C_below HR0.out HB.out) | (with_reducible refine Kd.C_alloc ?_ _) | (with_reducible refine Kd.C_drewN ?_ _) | (with_reducible refine Kd.C_drew ?_))); (case side2 => exact HC0.out); (case side3 => repeat (first | exact (Kd.C_below HR1.out HB.out) | (with_reducible refine Kd.C_alloc ?_ _) | (with_reducible refine Kd.C_drewN ?_ _) | (with_reducible refine Kd.C_drew ?_))); (case side4 => exact HC1.out); rintro e w97 ⟨rfl, hb⟩; refine ⟨_, rfl, ?_⟩; have n0_ := Aside0.mk (below_step hB_ hb); clear HB; have HB := n0_; clear n0_; (try clear hb); (try clear hb2); (try clear hk); (try clear hi)))
      go_ret
      exact ⟨by first | rfl | (simp [errW_none, errW_some] <;> rfl) | (simp [*, errW_none, errW_some] <;> rfl), by repeat (first | (with_reducible first | exact HB.out | apply below_alloc | apply pw_below_drewN | apply below_drew1) | exact HB.out)⟩
  · replace c6 := Bool.eq_false_iff.mpr c6
    subst c6
    have H1 : (none) = some r := by rw [if_neg (show ¬ (false = true) by decide)] at H; exact H
    clear H
    have H := H1
    clear H1
    cases H
end Go.Proofs.YtpbobdgenjhjoaaDoor.G
