-- Laid by the session's own driver gp.py over the kit's printer. Not trusted: Lean checks it.
import Derived.Test.YtgcdbpnflchobaaDoorBase
import Derived.Test.YtgcdbpnflchobaaDoorGS
import Derived.Test.YtgcdbpnflchobaaDoorGN
import Derived.Test.YtgcdbpnflchobaaDoorG38
import Derived.Test.YtgcdbpnflchobaaDoorG42
namespace Go.Proofs.YtgcdbpnflchobaaDoor.G
open Go.RowKit Go.Proofs.YtgcdbpnflchobaaDoorW.PrintWords Go.Proofs.YtgcdbpnflchobaaDoorW.PrintLast Go.Proofs.YtgcdbpnflchobaaDoorW.PrintMore
attribute [local go_sem] max2_int min2_int max_two min_two max_three min_three max_four min_four   -- for this text's walks alone
set_option linter.unusedVariables false
set_option linter.unusedSimpArgs false

/-! ### sleuthlaw24_BackFalls: function 11 -/
def sleuthlaw24_BackFalls.j0 : Nat → List (S44) → Int → List Int → Bool → Option (Bool)
  | 0, _, _, _, _ => none
  | k + 1, x0, x5, x6, x58 => if x58 = true then (some false) else (if x5 = 0 then (some ((x6.length : Int) == 1)) else (if 0 ≤ x5 then (if x5 < (x0.length : Int) then ((back_Path.f k x0 ((rd_T44 x0 x5).f1)).bind fun bt588 => ((sleuthlaw0_Num.f bt588.2).bind fun t592 => (if t592 = 0 then (if 1 ≤ (x6.length : Int) then ((sleuthlaw0_SameInts.f k bt588.1 (x6.drop 1)).bind fun t597 => (some t597)) else (none)) else (some false)))) else (none)) else (none)))
def sleuthlaw24_BackFalls.f (k : Nat) (l0 : List (S44)) (a1 : Int) : Option (Bool) := (sleuthlaw24_awake.f k).bind fun t578 => (if t578 = true then ((sleuthref12_TrailMay.f k l0).bind fun t579 => (if t579 = true then (if (IntKind.u64.wrap ((l0.length : Int))) = 0 then (none) else ((back_Path.f k l0 (wrap64 (Int.tmod (IntKind.u64.wrap (a1)) (IntKind.u64.wrap ((l0.length : Int)))))).bind fun bt580 => ((sleuthlaw0_Num.f bt580.2).bind fun t584 => (if t584 = 0 then (if (bt580.1.length : Int) = 0 then (sleuthlaw24_BackFalls.j0 k l0 (wrap64 (Int.tmod (IntKind.u64.wrap (a1)) (IntKind.u64.wrap ((l0.length : Int))))) bt580.1 true) else (if (bt580.1.length : Int) > (wrap64 ((wrap64 (Int.tmod (IntKind.u64.wrap (a1)) (IntKind.u64.wrap ((l0.length : Int))))) + 1)) then (sleuthlaw24_BackFalls.j0 k l0 (wrap64 (Int.tmod (IntKind.u64.wrap (a1)) (IntKind.u64.wrap ((l0.length : Int))))) bt580.1 true) else (if 0 < (bt580.1.length : Int) then (if (rd bt580.1 0) = (wrap64 (Int.tmod (IntKind.u64.wrap (a1)) (IntKind.u64.wrap ((l0.length : Int))))) then (if 0 ≤ (wrap64 ((bt580.1.length : Int) - 1)) then (if (wrap64 ((bt580.1.length : Int) - 1)) < (bt580.1.length : Int) then (sleuthlaw24_BackFalls.j0 k l0 (wrap64 (Int.tmod (IntKind.u64.wrap (a1)) (IntKind.u64.wrap ((l0.length : Int))))) bt580.1 ((rd bt580.1 (wrap64 ((bt580.1.length : Int) - 1))) != 0)) else (none)) else (none)) else (sleuthlaw24_BackFalls.j0 k l0 (wrap64 (Int.tmod (IntKind.u64.wrap (a1)) (IntKind.u64.wrap ((l0.length : Int))))) bt580.1 true)) else (none)))) else (sleuthlaw24_BackFalls.j0 k l0 (wrap64 (Int.tmod (IntKind.u64.wrap (a1)) (IntKind.u64.wrap ((l0.length : Int))))) bt580.1 true))))) else (some true))) else (some false))
theorem sleuthlaw24_BackFalls.mono_l : ∀ k, (∀ y0 y1 y2 y3, LeO (sleuthlaw24_BackFalls.j0 k y0 y1 y2 y3) (sleuthlaw24_BackFalls.j0 (k + 1) y0 y1 y2 y3))
  | 0 => fun _ _ _ _ r h => by simp [sleuthlaw24_BackFalls.j0] at h
  | k + 1 => by
    have ih0 := sleuthlaw24_BackFalls.mono_l k
    · intro y0 y1 y2 y3
      unfold sleuthlaw24_BackFalls.j0
      repeat' first
      | (with_reducible exact ih0 _ _ _ _)
      | (with_reducible exact back_Path.mono _ _ _)
      | (with_reducible exact sleuthlaw0_SameInts.mono _ _ _)
      | (with_reducible exact sleuthlaw24_awake.mono _)
      | (with_reducible exact sleuthref12_TrailMay.mono _ _)
      | (with_reducible exact LeO.refl _)
      | (with_reducible exact LeO.none _)
      | (with_reducible refine LeO.ite ?_ ?_)
      | (with_reducible refine LeO.bind ?_ (fun _ => ?_))
      | exact ih0 _ _ _ _
      | exact back_Path.mono _ _ _
      | exact sleuthlaw0_SameInts.mono _ _ _
      | exact sleuthlaw24_awake.mono _
      | exact sleuthref12_TrailMay.mono _ _
      | exact LeO.none _
      | refine LeO.ite ?_ ?_
      | refine LeO.bind ?_ (fun _ => ?_)
theorem sleuthlaw24_BackFalls.mono : ∀ a0 a1 k, LeO (sleuthlaw24_BackFalls.f k a0 a1) (sleuthlaw24_BackFalls.f (k + 1) a0 a1) := by
  intro a0 a1 k
  have ih0 := sleuthlaw24_BackFalls.mono_l k
  unfold sleuthlaw24_BackFalls.f
  repeat' first
      | (with_reducible exact ih0 _ _ _ _)
      | (with_reducible exact back_Path.mono _ _ _)
      | (with_reducible exact sleuthlaw0_SameInts.mono _ _ _)
      | (with_reducible exact sleuthlaw24_awake.mono _)
      | (with_reducible exact sleuthref12_TrailMay.mono _ _)
      | (with_reducible exact LeO.refl _)
      | (with_reducible exact LeO.none _)
      | (with_reducible refine LeO.ite ?_ ?_)
      | (with_reducible refine LeO.bind ?_ (fun _ => ?_))
      | exact ih0 _ _ _ _
      | exact back_Path.mono _ _ _
      | exact sleuthlaw0_SameInts.mono _ _ _
      | exact sleuthlaw24_awake.mono _
      | exact sleuthref12_TrailMay.mono _ _
      | exact LeO.none _
      | refine LeO.ite ?_ ?_
      | refine LeO.bind ?_ (fun _ => ?_)
set_option maxHeartbeats 8000000 in
set_option maxRecDepth 100000 in
theorem sleuthlaw24_BackFalls.calls (k : Nat) (A0 : Option Addr) (c0 : Nat) (l0 : List (S44)) (a1 : Int) (r : Bool) (w : World) (hr0 : Kd.C k44 w A0 l0.length l0) (hc0 : l0.length ≤ c0) (h : sleuthlaw24_BackFalls.f k l0 a1 = some r) (hG : GOK w) :
    Calls Tryd.prog 11 #[.slice A0 l0.length c0, .int .i64 a1] w fun e w' => e = .returned (.bool r) ∧ Below w.heap.size w w' := by
  have HR0 := Aside0.mk hr0
  have HC0 := Aside0.mk hc0
  clear hr0 hc0
  have HB := Aside0.mk (Below.refl w.heap.size w)
  have H : ((sleuthlaw24_awake.f k).bind fun t578 => (if t578 = true then ((sleuthref12_TrailMay.f k l0).bind fun t579 => (if t579 = true then (if (IntKind.u64.wrap ((l0.length : Int))) = 0 then (none) else ((back_Path.f k l0 (wrap64 (Int.tmod (IntKind.u64.wrap (a1)) (IntKind.u64.wrap ((l0.length : Int)))))).bind fun bt580 => ((sleuthlaw0_Num.f bt580.2).bind fun t584 => (if t584 = 0 then (if (bt580.1.length : Int) = 0 then (sleuthlaw24_BackFalls.j0 k l0 (wrap64 (Int.tmod (IntKind.u64.wrap (a1)) (IntKind.u64.wrap ((l0.length : Int))))) bt580.1 true) else (if (bt580.1.length : Int) > (wrap64 ((wrap64 (Int.tmod (IntKind.u64.wrap (a1)) (IntKind.u64.wrap ((l0.length : Int))))) + 1)) then (sleuthlaw24_BackFalls.j0 k l0 (wrap64 (Int.tmod (IntKind.u64.wrap (a1)) (IntKind.u64.wrap ((l0.length : Int))))) bt580.1 true) else (if 0 < (bt580.1.length : Int) then (if (rd bt580.1 0) = (wrap64 (Int.tmod (IntKind.u64.wrap (a1)) (IntKind.u64.wrap ((l0.length : Int))))) then (if 0 ≤ (wrap64 ((bt580.1.length : Int) - 1)) then (if (wrap64 ((bt580.1.length : Int) - 1)) < (bt580.1.length : Int) then (sleuthlaw24_BackFalls.j0 k l0 (wrap64 (Int.tmod (IntKind.u64.wrap (a1)) (IntKind.u64.wrap ((l0.length : Int))))) bt580.1 ((rd bt580.1 (wrap64 ((bt580.1.length : Int) - 1))) != 0)) else (none)) else (none)) else (sleuthlaw24_BackFalls.j0 k l0 (wrap64 (Int.tmod (IntKind.u64.wrap (a1)) (IntKind.u64.wrap ((l0.length : Int))))) bt580.1 true)) else (none)))) else (sleuthlaw24_BackFalls.j0 k l0 (wrap64 (Int.tmod (IntKind.u64.wrap (a1)) (IntKind.u64.wrap ((l0.length : Int))))) bt580.1 true))))) else (some true))) else (some false))) = some r := h
  clear h
  replace H := Option.bind_eq_some_iff.mp H
  obtain ⟨t578, A30, H⟩ := H
  replace H : (if t578 = true then ((sleuthref12_TrailMay.f k l0).bind fun t579 => (if t579 = true then (if (IntKind.u64.wrap ((l0.length : Int))) = 0 then (none) else ((back_Path.f k l0 (wrap64 (Int.tmod (IntKind.u64.wrap (a1)) (IntKind.u64.wrap ((l0.length : Int)))))).bind fun bt580 => ((sleuthlaw0_Num.f bt580.2).bind fun t584 => (if t584 = 0 then (if (bt580.1.length : Int) = 0 then (sleuthlaw24_BackFalls.j0 k l0 (wrap64 (Int.tmod (IntKind.u64.wrap (a1)) (IntKind.u64.wrap ((l0.length : Int))))) bt580.1 true) else (if (bt580.1.length : Int) > (wrap64 ((wrap64 (Int.tmod (IntKind.u64.wrap (a1)) (IntKind.u64.wrap ((l0.length : Int))))) + 1)) then (sleuthlaw24_BackFalls.j0 k l0 (wrap64 (Int.tmod (IntKind.u64.wrap (a1)) (IntKind.u64.wrap ((l0.length : Int))))) bt580.1 true) else (if 0 < (bt580.1.length : Int) then (if (rd bt580.1 0) = (wrap64 (Int.tmod (IntKind.u64.wrap (a1)) (IntKind.u64.wrap ((l0.length : Int))))) then (if 0 ≤ (wrap64 ((bt580.1.length : Int) - 1)) then (if (wrap64 ((bt580.1.length : Int) - 1)) < (bt580.1.length : Int) then (sleuthlaw24_BackFalls.j0 k l0 (wrap64 (Int.tmod (IntKind.u64.wrap (a1)) (IntKind.u64.wrap ((l0.length : Int))))) bt580.1 ((rd bt580.1 (wrap64 ((bt580.1.length : Int) - 1))) != 0)) else (none)) else (none)) else (sleuthlaw24_BackFalls.j0 k l0 (wrap64 (Int.tmod (IntKind.u64.wrap (a1)) (IntKind.u64.wrap ((l0.length : Int))))) bt580.1 true)) else (none)))) else (sleuthlaw24_BackFalls.j0 k l0 (wrap64 (Int.tmod (IntKind.u64.wrap (a1)) (IntKind.u64.wrap ((l0.length : Int))))) bt580.1 true))))) else (some true))) else (some false)) = some r := H
  have A3 := Aside0.mk A30
  clear A30
  by_cases c4 : t578 = true
  · subst c4
    have H1 : ((sleuthref12_TrailMay.f k l0).bind fun t579 => (if t579 = true then (if (IntKind.u64.wrap ((l0.length : Int))) = 0 then (none) else ((back_Path.f k l0 (wrap64 (Int.tmod (IntKind.u64.wrap (a1)) (IntKind.u64.wrap ((l0.length : Int)))))).bind fun bt580 => ((sleuthlaw0_Num.f bt580.2).bind fun t584 => (if t584 = 0 then (if (bt580.1.length : Int) = 0 then (sleuthlaw24_BackFalls.j0 k l0 (wrap64 (Int.tmod (IntKind.u64.wrap (a1)) (IntKind.u64.wrap ((l0.length : Int))))) bt580.1 true) else (if (bt580.1.length : Int) > (wrap64 ((wrap64 (Int.tmod (IntKind.u64.wrap (a1)) (IntKind.u64.wrap ((l0.length : Int))))) + 1)) then (sleuthlaw24_BackFalls.j0 k l0 (wrap64 (Int.tmod (IntKind.u64.wrap (a1)) (IntKind.u64.wrap ((l0.length : Int))))) bt580.1 true) else (if 0 < (bt580.1.length : Int) then (if (rd bt580.1 0) = (wrap64 (Int.tmod (IntKind.u64.wrap (a1)) (IntKind.u64.wrap ((l0.length : Int))))) then (if 0 ≤ (wrap64 ((bt580.1.length : Int) - 1)) then (if (wrap64 ((bt580.1.length : Int) - 1)) < (bt580.1.length : Int) then (sleuthlaw24_BackFalls.j0 k l0 (wrap64 (Int.tmod (IntKind.u64.wrap (a1)) (IntKind.u64.wrap ((l0.length : Int))))) bt580.1 ((rd bt580.1 (wrap64 ((bt580.1.length : Int) - 1))) != 0)) else (none)) else (none)) else (sleuthlaw24_BackFalls.j0 k l0 (wrap64 (Int.tmod (IntKind.u64.wrap (a1)) (IntKind.u64.wrap ((l0.length : Int))))) bt580.1 true)) else (none)))) else (sleuthlaw24_BackFalls.j0 k l0 (wrap64 (Int.tmod (IntKind.u64.wrap (a1)) (IntKind.u64.wrap ((l0.length : Int))))) bt580.1 true))))) else (some true))) = some r := by rw [if_pos rfl] at H; exact H
    clear H
    have H := H1
    clear H1
    replace H := Option.bind_eq_some_iff.mp H
    obtain ⟨t579, A50, H⟩ := H
    replace H : (if t579 = true then (if (IntKind.u64.wrap ((l0.length : Int))) = 0 then (none) else ((back_Path.f k l0 (wrap64 (Int.tmod (IntKind.u64.wrap (a1)) (IntKind.u64.wrap ((l0.length : Int)))))).bind fun bt580 => ((sleuthlaw0_Num.f bt580.2).bind fun t584 => (if t584 = 0 then (if (bt580.1.length : Int) = 0 then (sleuthlaw24_BackFalls.j0 k l0 (wrap64 (Int.tmod (IntKind.u64.wrap (a1)) (IntKind.u64.wrap ((l0.length : Int))))) bt580.1 true) else (if (bt580.1.length : Int) > (wrap64 ((wrap64 (Int.tmod (IntKind.u64.wrap (a1)) (IntKind.u64.wrap ((l0.length : Int))))) + 1)) then (sleuthlaw24_BackFalls.j0 k l0 (wrap64 (Int.tmod (IntKind.u64.wrap (a1)) (IntKind.u64.wrap ((l0.length : Int))))) bt580.1 true) else (if 0 < (bt580.1.length : Int) then (if (rd bt580.1 0) = (wrap64 (Int.tmod (IntKind.u64.wrap (a1)) (IntKind.u64.wrap ((l0.length : Int))))) then (if 0 ≤ (wrap64 ((bt580.1.length : Int) - 1)) then (if (wrap64 ((bt580.1.length : Int) - 1)) < (bt580.1.length : Int) then (sleuthlaw24_BackFalls.j0 k l0 (wrap64 (Int.tmod (IntKind.u64.wrap (a1)) (IntKind.u64.wrap ((l0.length : Int))))) bt580.1 ((rd bt580.1 (wrap64 ((bt580.1.length : Int) - 1))) != 0)) else (none)) else (none)) else (sleuthlaw24_BackFalls.j0 k l0 (wrap64 (Int.tmod (IntKind.u64.wrap (a1)) (IntKind.u64.wrap ((l0.length : Int))))) bt580.1 true)) else (none)))) else (sleuthlaw24_BackFalls.j0 k l0 (wrap64 (Int.tmod (IntKind.u64.wrap (a1)) (IntKind.u64.wrap ((l0.length : Int))))) bt580.1 true))))) else (some true)) = some r := H
    have A5 := Aside0.mk A50
    clear A50
    by_cases c6 : t579 = true
    · subst c6
      have H1 : (if (IntKind.u64.wrap ((l0.length : Int))) = 0 then (none) else ((back_Path.f k l0 (wrap64 (Int.tmod (IntKind.u64.wrap (a1)) (IntKind.u64.wrap ((l0.length : Int)))))).bind fun bt580 => ((sleuthlaw0_Num.f bt580.2).bind fun t584 => (if t584 = 0 then (if (bt580.1.length : Int) = 0 then (sleuthlaw24_BackFalls.j0 k l0 (wrap64 (Int.tmod (IntKind.u64.wrap (a1)) (IntKind.u64.wrap ((l0.length : Int))))) bt580.1 true) else (if (bt580.1.length : Int) > (wrap64 ((wrap64 (Int.tmod (IntKind.u64.wrap (a1)) (IntKind.u64.wrap ((l0.length : Int))))) + 1)) then (sleuthlaw24_BackFalls.j0 k l0 (wrap64 (Int.tmod (IntKind.u64.wrap (a1)) (IntKind.u64.wrap ((l0.length : Int))))) bt580.1 true) else (if 0 < (bt580.1.length : Int) then (if (rd bt580.1 0) = (wrap64 (Int.tmod (IntKind.u64.wrap (a1)) (IntKind.u64.wrap ((l0.length : Int))))) then (if 0 ≤ (wrap64 ((bt580.1.length : Int) - 1)) then (if (wrap64 ((bt580.1.length : Int) - 1)) < (bt580.1.length : Int) then (sleuthlaw24_BackFalls.j0 k l0 (wrap64 (Int.tmod (IntKind.u64.wrap (a1)) (IntKind.u64.wrap ((l0.length : Int))))) bt580.1 ((rd bt580.1 (wrap64 ((bt580.1.length : Int) - 1))) != 0)) else (none)) else (none)) else (sleuthlaw24_BackFalls.j0 k l0 (wrap64 (Int.tmod (IntKind.u64.wrap (a1)) (IntKind.u64.wrap ((l0.length : Int))))) bt580.1 true)) else (none)))) else (sleuthlaw24_BackFalls.j0 k l0 (wrap64 (Int.tmod (IntKind.u64.wrap (a1)) (IntKind.u64.wrap ((l0.length : Int))))) bt580.1 true))))) = some r := by rw [if_pos rfl] at H; exact H
      clear H
      have H := H1
      clear H1
      by_cases c7 : (IntKind.u64.wrap ((l0.length : Int))) = 0
      · rw [if_pos c7] at H
        exact absurd H (by simp)
      · rw [if_neg c7] at H
        have c7b0 : ((IntKind.u64.wrap ((l0.length : Int))) == 0) = false := beq_eq_false_iff_ne.mpr c7
        have c7b1 : ((IntKind.u64.wrap ((l0.length : Int))) != 0) = true := bne_iff_ne.mpr c7
        replace H := Option.bind_eq_some_iff.mp H
        obtain ⟨⟨t580, t581⟩, A80, H⟩ := H
        replace H : ((sleuthlaw0_Num.f t581).bind fun t584 => (if t584 = 0 then (if (t580.length : Int) = 0 then (sleuthlaw24_BackFalls.j0 k l0 (wrap64 (Int.tmod (IntKind.u64.wrap (a1)) (IntKind.u64.wrap ((l0.length : Int))))) t580 true) else (if (t580.length : Int) > (wrap64 ((wrap64 (Int.tmod (IntKind.u64.wrap (a1)) (IntKind.u64.wrap ((l0.length : Int))))) + 1)) then (sleuthlaw24_BackFalls.j0 k l0 (wrap64 (Int.tmod (IntKind.u64.wrap (a1)) (IntKind.u64.wrap ((l0.length : Int))))) t580 true) else (if 0 < (t580.length : Int) then (if (rd t580 0) = (wrap64 (Int.tmod (IntKind.u64.wrap (a1)) (IntKind.u64.wrap ((l0.length : Int))))) then (if 0 ≤ (wrap64 ((t580.length : Int) - 1)) then (if (wrap64 ((t580.length : Int) - 1)) < (t580.length : Int) then (sleuthlaw24_BackFalls.j0 k l0 (wrap64 (Int.tmod (IntKind.u64.wrap (a1)) (IntKind.u64.wrap ((l0.length : Int))))) t580 ((rd t580 (wrap64 ((t580.length : Int) - 1))) != 0)) else (none)) else (none)) else (sleuthlaw24_BackFalls.j0 k l0 (wrap64 (Int.tmod (IntKind.u64.wrap (a1)) (IntKind.u64.wrap ((l0.length : Int))))) t580 true)) else (none)))) else (sleuthlaw24_BackFalls.j0 k l0 (wrap64 (Int.tmod (IntKind.u64.wrap (a1)) (IntKind.u64.wrap ((l0.length : Int))))) t580 true))) = some r := H
        have A8 := Aside0.mk A80
        clear A80
        have HC9 := Aside0.mk H
        clear H
        go_enter Tryd.func11, Tryd.ntmps11
        go_upto_region 7 with (first | ((with_reducible refine gate_callee (f := 30) rfl ?_); refine goesL_ (some 10) rfl rfl Tryd.func30 (by kernel_rfl) rfl #[] rfl hL_ ?_; (with_reducible refine (sleuthlaw24_awake.calls k  true _ A3.out hG_).mono ?_); rintro e w10 ⟨rfl, hb⟩; refine ⟨_, rfl, ?_⟩; have n0_ := Aside0.mk (below_step hB_ hb); clear HB; have HB := n0_; clear n0_; (try clear hb); (try clear hb2); (try clear hk); (try clear hi)) | ((with_reducible refine gate_callee (f := 24) rfl ?_); refine goesL_ (some 13) rfl rfl Tryd.func24 (by kernel_rfl) rfl #[.slice A0 l0.length c0] rfl hL_ ?_; (with_reducible refine (sleuthref12_TrailMay.calls k _ _ l0 true _ ?side1 ?side2 A5.out).mono ?_); (case side1 => repeat (first | exact (Kd.C_below HR0.out HB.out) | (with_reducible refine Kd.C_alloc ?_ _) | (with_reducible refine Kd.C_drewN ?_ _) | (with_reducible refine Kd.C_drew ?_))); (case side2 => exact HC0.out); rintro e w11 ⟨rfl, hb⟩; refine ⟨_, rfl, ?_⟩; have n0_ := Aside0.mk (below_step hB_ hb); clear HB; have HB := n0_; clear n0_; (try clear hb); (try clear hb2); (try clear hk); (try clear hi)) | ((with_reducible refine gate_callee (f := 26) rfl ?_); refine goesL_ (some 25) rfl rfl Tryd.func26 (by kernel_rfl) rfl #[.slice A0 l0.length c0, .int .i64 (wrap64 (Int.tmod (IntKind.u64.wrap (a1)) (IntKind.u64.wrap ((l0.length : Int)))))] rfl hL_ ?_; (with_reducible refine (back_Path.calls k _ _ l0 (wrap64 (Int.tmod (IntKind.u64.wrap (a1)) (IntKind.u64.wrap ((l0.length : Int))))) t580 t581 _ ?side1 ?side2 A8.out hG_).mono ?_); (case side1 => repeat (first | exact (Kd.C_below HR0.out HB.out) | (with_reducible refine Kd.C_alloc ?_ _) | (with_reducible refine Kd.C_drewN ?_ _) | (with_reducible refine Kd.C_drew ?_))); (case side2 => exact HC0.out); rintro e w12 ⟨v582, rfl, ho0, hb⟩; refine ⟨_, rfl, ?_⟩; have n0_ := Aside0.mk (Kd.R_lower ho0 hS_); have n1_ := Aside0.mk (below_step hB_ hb); clear HB; have HO583 := n0_; have HB := n1_; clear n0_ n1_; (try clear hb); (try clear hb2); (try clear hk); (try clear hi); (try clear ho0)))
        (try simp only [Act.put, List.setIfInBounds_toArray, List.set_cons_zero, List.set_cons_succ])
        go_cut [58] (fun v58 wc => ∃ (kq : Nat) (x58_8 : Bool), v58 = .bool x58_8 ∧ Aside0 (sleuthlaw24_BackFalls.j0 kq l0 (wrap64 (Int.tmod (IntKind.u64.wrap (a1)) (IntKind.u64.wrap ((l0.length : Int))))) t580 x58_8 = some r) ∧ Aside0 (kq ≤ k) ∧ Aside0 (Kd.R (Kd.int .i64) 3 wc w.heap.size (fun _ => True) v582 t580) ∧ Aside0 (Below w.heap.size w wc))
        case first =>
          have H := HC9.out
          clear HC9
          replace H := Option.bind_eq_some_iff.mp H
          obtain ⟨t584, A130, H⟩ := H
          replace H : (if t584 = 0 then (if (t580.length : Int) = 0 then (sleuthlaw24_BackFalls.j0 k l0 (wrap64 (Int.tmod (IntKind.u64.wrap (a1)) (IntKind.u64.wrap ((l0.length : Int))))) t580 true) else (if (t580.length : Int) > (wrap64 ((wrap64 (Int.tmod (IntKind.u64.wrap (a1)) (IntKind.u64.wrap ((l0.length : Int))))) + 1)) then (sleuthlaw24_BackFalls.j0 k l0 (wrap64 (Int.tmod (IntKind.u64.wrap (a1)) (IntKind.u64.wrap ((l0.length : Int))))) t580 true) else (if 0 < (t580.length : Int) then (if (rd t580 0) = (wrap64 (Int.tmod (IntKind.u64.wrap (a1)) (IntKind.u64.wrap ((l0.length : Int))))) then (if 0 ≤ (wrap64 ((t580.length : Int) - 1)) then (if (wrap64 ((t580.length : Int) - 1)) < (t580.length : Int) then (sleuthlaw24_BackFalls.j0 k l0 (wrap64 (Int.tmod (IntKind.u64.wrap (a1)) (IntKind.u64.wrap ((l0.length : Int))))) t580 ((rd t580 (wrap64 ((t580.length : Int) - 1))) != 0)) else (none)) else (none)) else (sleuthlaw24_BackFalls.j0 k l0 (wrap64 (Int.tmod (IntKind.u64.wrap (a1)) (IntKind.u64.wrap ((l0.length : Int))))) t580 true)) else (none)))) else (sleuthlaw24_BackFalls.j0 k l0 (wrap64 (Int.tmod (IntKind.u64.wrap (a1)) (IntKind.u64.wrap ((l0.length : Int))))) t580 true)) = some r := H
          have A13 := Aside0.mk A130
          clear A130
          by_cases c14 : t584 = 0
          · rw [if_pos c14] at H
            have c14b0 : (t584 == 0) = true := beq_iff_eq.mpr c14
            have c14b1 : (t584 != 0) = false := bne_eq_false_iff_eq.mpr c14
            clear c14
            (first | rw [c14b0] | (simp only [i64_w, i32_w]; rw [c14b0]) | skip)
            by_cases c15 : (t580.length : Int) = 0
            · rw [if_pos c15] at H
              have c15b0 : ((t580.length : Int) == 0) = true := beq_iff_eq.mpr c15
              have c15b1 : ((t580.length : Int) != 0) = false := bne_eq_false_iff_eq.mpr c15
              clear c15
              have H' := Aside0.mk H
              clear H
              go_wp2_with (first | ((with_reducible refine gate_callee (f := 20) rfl ?_); refine goesL_ (some 29) rfl rfl Tryd.func20 (by kernel_rfl) rfl #[.int .i64 t581] rfl hL_ ?_; (with_reducible refine (sleuthlaw0_Num.calls t581 t584 _ A13.out).mono ?_); rintro e w' ⟨rfl, ⟨nd, rfl⟩⟩; refine ⟨_, rfl, ?_⟩; obtain ⟨Ao16, co16, eo16⟩ := Kd.R_slice HO583.out; subst eo16))
              go_meet
              case rel => exact ⟨_, (true), (by first | rfl | (simp; done) | (simp [*]; done)), H', ⟨by first | omega | exact Nat.le_refl _⟩, ⟨by (with_reducible repeat (first | apply Kd.R_alloc | apply Kd.R_drewN | apply Kd.R_drew)); exact HO583.out⟩, ⟨by repeat (first | (with_reducible first | exact HB.out | apply below_alloc | apply pw_below_drewN | apply below_drew1) | exact HB.out)⟩⟩
            · rw [if_neg c15] at H
              have c15b0 : ((t580.length : Int) == 0) = false := beq_eq_false_iff_ne.mpr c15
              have c15b1 : ((t580.length : Int) != 0) = true := bne_iff_ne.mpr c15
              have c15b2 : ¬ (t580 = []) := fun h_ => c15 (by rw [h_]; rfl)
              by_cases c17 : (t580.length : Int) > (wrap64 ((wrap64 (Int.tmod (IntKind.u64.wrap (a1)) (IntKind.u64.wrap ((l0.length : Int))))) + 1))
              · rw [if_pos c17] at H
                have c17b0 : decide ((wrap64 ((wrap64 (Int.tmod (IntKind.u64.wrap (a1)) (IntKind.u64.wrap ((l0.length : Int))))) + 1)) < (t580.length : Int)) = true := decide_eq_true c17
                (try (have c17b0w := c17b0; try (rw [show wrap64 (Int.tmod (IntKind.u64.wrap (a1)) (IntKind.u64.wrap ((l0.length : Int)))) = (Int.tmod (IntKind.u64.wrap (a1)) (IntKind.u64.wrap ((l0.length : Int)))) from by unfold wrap64; omega] at c17b0w); try (rw [show wrap64 ((wrap64 (Int.tmod (IntKind.u64.wrap (a1)) (IntKind.u64.wrap ((l0.length : Int))))) + 1) = ((wrap64 (Int.tmod (IntKind.u64.wrap (a1)) (IntKind.u64.wrap ((l0.length : Int))))) + 1) from by unfold wrap64; omega] at c17b0w)))
                clear c17
                have H' := Aside0.mk H
                clear H
                go_wp2_with (first | ((with_reducible refine gate_callee (f := 20) rfl ?_); refine goesL_ (some 29) rfl rfl Tryd.func20 (by kernel_rfl) rfl #[.int .i64 t581] rfl hL_ ?_; (with_reducible refine (sleuthlaw0_Num.calls t581 t584 _ A13.out).mono ?_); rintro e w' ⟨rfl, ⟨nd, rfl⟩⟩; refine ⟨_, rfl, ?_⟩; obtain ⟨Ao18, co18, eo18⟩ := Kd.R_slice HO583.out; subst eo18))
                go_meet
                case rel => exact ⟨_, (true), (by first | rfl | (simp; done) | (simp [*]; done)), H', ⟨by first | omega | exact Nat.le_refl _⟩, ⟨by (with_reducible repeat (first | apply Kd.R_alloc | apply Kd.R_drewN | apply Kd.R_drew)); exact HO583.out⟩, ⟨by repeat (first | (with_reducible first | exact HB.out | apply below_alloc | apply pw_below_drewN | apply below_drew1) | exact HB.out)⟩⟩
              · rw [if_neg c17] at H
                have c17b0 : decide ((wrap64 ((wrap64 (Int.tmod (IntKind.u64.wrap (a1)) (IntKind.u64.wrap ((l0.length : Int))))) + 1)) < (t580.length : Int)) = false := decide_eq_false c17
                (try (have c17b0w := c17b0; try (rw [show wrap64 (Int.tmod (IntKind.u64.wrap (a1)) (IntKind.u64.wrap ((l0.length : Int)))) = (Int.tmod (IntKind.u64.wrap (a1)) (IntKind.u64.wrap ((l0.length : Int)))) from by unfold wrap64; omega] at c17b0w); try (rw [show wrap64 ((wrap64 (Int.tmod (IntKind.u64.wrap (a1)) (IntKind.u64.wrap ((l0.length : Int))))) + 1) = ((wrap64 (Int.tmod (IntKind.u64.wrap (a1)) (IntKind.u64.wrap ((l0.length : Int))))) + 1) from by unfold wrap64; omega] at c17b0w)))
                clear c17
                by_cases c19 : 0 < (t580.length : Int)
                · rw [if_pos c19] at H
                  have c19b0 : decide (0 < (t580.length : Int)) = true := decide_eq_true c19
                  have c19b1 : decide (0 < t580.length) = true := decide_eq_true (by omega)
                  clear c19
                  by_cases c20 : (rd t580 0) = (wrap64 (Int.tmod (IntKind.u64.wrap (a1)) (IntKind.u64.wrap ((l0.length : Int)))))
                  · rw [if_pos c20] at H
                    have c20b0 : ((rd t580 0) == (wrap64 (Int.tmod (IntKind.u64.wrap (a1)) (IntKind.u64.wrap ((l0.length : Int)))))) = true := beq_iff_eq.mpr c20
                    have c20b1 : ((rd t580 0) != (wrap64 (Int.tmod (IntKind.u64.wrap (a1)) (IntKind.u64.wrap ((l0.length : Int)))))) = false := bne_eq_false_iff_eq.mpr c20
                    (try (have c20b0w := c20b0; (rw [show wrap64 (Int.tmod (IntKind.u64.wrap (a1)) (IntKind.u64.wrap ((l0.length : Int)))) = (Int.tmod (IntKind.u64.wrap (a1)) (IntKind.u64.wrap ((l0.length : Int)))) from by unfold wrap64; omega] at c20b0w)))
                    (try (have c20b1w := c20b1; (rw [show wrap64 (Int.tmod (IntKind.u64.wrap (a1)) (IntKind.u64.wrap ((l0.length : Int)))) = (Int.tmod (IntKind.u64.wrap (a1)) (IntKind.u64.wrap ((l0.length : Int)))) from by unfold wrap64; omega] at c20b1w)))
                    clear c20
                    obtain ⟨ji21, hji21⟩ : ∃ j_ : Int, (wrap64 ((t580.length : Int) - 1)) = j_ := ⟨_, rfl⟩
                    replace H : (if 0 ≤ (ji21) then (if (ji21) < (t580.length : Int) then (sleuthlaw24_BackFalls.j0 k l0 (wrap64 (Int.tmod (IntKind.u64.wrap (a1)) (IntKind.u64.wrap ((l0.length : Int))))) t580 ((rd t580 (ji21)) != 0)) else (none)) else (none)) = some r := by first | (rw [hji21] at H; exact H) | (simp only [hji21] at H ⊢; exact H)
                    (try rw [hji21] at A13)
                    have hji21w : (IntKind.i64.wrap ((t580.length : Int) - 1)) = ji21 := (i64_w _).trans hji21
                    by_cases c22 : 0 ≤ (ji21)
                    · rw [if_pos c22] at H
                      have c22b0 : decide (0 ≤ (ji21)) = true := decide_eq_true c22
                      clear c22
                      by_cases c23 : (ji21) < (t580.length : Int)
                      · rw [if_pos c23] at H
                        have c23b0 : decide ((ji21) < (t580.length : Int)) = true := decide_eq_true c23
                        clear c23
                        have H' := Aside0.mk H
                        clear H
                        go_wp2_with (first | ((with_reducible refine gate_callee (f := 20) rfl ?_); refine goesL_ (some 29) rfl rfl Tryd.func20 (by kernel_rfl) rfl #[.int .i64 t581] rfl hL_ ?_; (with_reducible refine (sleuthlaw0_Num.calls t581 t584 _ A13.out).mono ?_); rintro e w' ⟨rfl, ⟨nd, rfl⟩⟩; refine ⟨_, rfl, ?_⟩; obtain ⟨Ao24, co24, eo24⟩ := Kd.R_slice HO583.out; subst eo24; have p585 : 0 ≤ (0 : Int) := (by omega); have q585 : 0 < (t580.length : Int) := of_decide_eq_true hA_; obtain ⟨ad585, e585, hx585_0⟩ := Kd.at_int (Kd.R_reads' HO583.out).2.2 0 p585 q585; cases e585; have qi585 : (0 < t580.length) = True := eq_true (by omega); (try rw [show ((0 : Int)).toNat = 0 from rfl] at hx585_0); (try rw [Addr.add_zero'] at hx585_0); replace p585 := eq_true p585; replace q585 := eq_true q585; have p586 : 0 ≤ ((ji21) : Int) := of_decide_eq_true hA_; have q586 : (ji21) < (t580.length : Int) := of_decide_eq_true hA_; obtain ⟨ad586, e586, hx586_0⟩ := Kd.at_int (Kd.R_reads' HO583.out).2.2 (ji21) p586 q586; obtain rfl : ad585 = ad586 := (by injection e586); replace p586 := eq_true p586; replace q586 := eq_true q586))
                        go_meet
                        case rel => exact ⟨_, (((rd t580 (ji21)) != 0)), (by first | rfl | (simp; done) | (simp only [← hji21] <;> (first | rfl | simp)) | (simp [*]; done)), H', ⟨by first | omega | exact Nat.le_refl _⟩, ⟨by (with_reducible repeat (first | apply Kd.R_alloc | apply Kd.R_drewN | apply Kd.R_drew)); exact HO583.out⟩, ⟨by repeat (first | (with_reducible first | exact HB.out | apply below_alloc | apply pw_below_drewN | apply below_drew1) | exact HB.out)⟩⟩
                      · rw [if_neg c23] at H
                        exact absurd H (by simp)
                    · rw [if_neg c22] at H
                      exact absurd H (by simp)
                  · rw [if_neg c20] at H
                    have c20b0 : ((rd t580 0) == (wrap64 (Int.tmod (IntKind.u64.wrap (a1)) (IntKind.u64.wrap ((l0.length : Int)))))) = false := beq_eq_false_iff_ne.mpr c20
                    have c20b1 : ((rd t580 0) != (wrap64 (Int.tmod (IntKind.u64.wrap (a1)) (IntKind.u64.wrap ((l0.length : Int)))))) = true := bne_iff_ne.mpr c20
                    (try (have c20b0w := c20b0; (rw [show wrap64 (Int.tmod (IntKind.u64.wrap (a1)) (IntKind.u64.wrap ((l0.length : Int)))) = (Int.tmod (IntKind.u64.wrap (a1)) (IntKind.u64.wrap ((l0.length : Int)))) from by unfold wrap64; omega] at c20b0w)))
                    (try (have c20b1w := c20b1; (rw [show wrap64 (Int.tmod (IntKind.u64.wrap (a1)) (IntKind.u64.wrap ((l0.length : Int)))) = (Int.tmod (IntKind.u64.wrap (a1)) (IntKind.u64.wrap ((l0.length : Int)))) from by unfold wrap64; omega] at c20b1w)))
                    have H' := Aside0.mk H
                    clear H
                    go_wp2_with (first | ((with_reducible refine gate_callee (f := 20) rfl ?_); refine goesL_ (some 29) rfl rfl Tryd.func20 (by kernel_rfl) rfl #[.int .i64 t581] rfl hL_ ?_; (with_reducible refine (sleuthlaw0_Num.calls t581 t584 _ A13.out).mono ?_); rintro e w' ⟨rfl, ⟨nd, rfl⟩⟩; refine ⟨_, rfl, ?_⟩; obtain ⟨Ao25, co25, eo25⟩ := Kd.R_slice HO583.out; subst eo25; have p585 : 0 ≤ (0 : Int) := (by omega); have q585 : 0 < (t580.length : Int) := of_decide_eq_true hA_; obtain ⟨ad585, e585, hx585_0⟩ := Kd.at_int (Kd.R_reads' HO583.out).2.2 0 p585 q585; cases e585; have qi585 : (0 < t580.length) = True := eq_true (by omega); (try rw [show ((0 : Int)).toNat = 0 from rfl] at hx585_0); (try rw [Addr.add_zero'] at hx585_0); replace p585 := eq_true p585; replace q585 := eq_true q585))
                    go_meet
                    case rel => exact ⟨_, (true), (by first | rfl | (simp; done) | (simp [*]; done)), H', ⟨by first | omega | exact Nat.le_refl _⟩, ⟨by (with_reducible repeat (first | apply Kd.R_alloc | apply Kd.R_drewN | apply Kd.R_drew)); exact HO583.out⟩, ⟨by repeat (first | (with_reducible first | exact HB.out | apply below_alloc | apply pw_below_drewN | apply below_drew1) | exact HB.out)⟩⟩
                · rw [if_neg c19] at H
                  exact absurd H (by simp)
          · rw [if_neg c14] at H
            have c14b0 : (t584 == 0) = false := beq_eq_false_iff_ne.mpr c14
            have c14b1 : (t584 != 0) = true := bne_iff_ne.mpr c14
            (first | rw [c14b0] | (simp only [i64_w, i32_w]; rw [c14b0]) | skip)
            have H' := Aside0.mk H
            clear H
            go_wp2_with (first | ((with_reducible refine gate_callee (f := 20) rfl ?_); refine goesL_ (some 29) rfl rfl Tryd.func20 (by kernel_rfl) rfl #[.int .i64 t581] rfl hL_ ?_; (with_reducible refine (sleuthlaw0_Num.calls t581 t584 _ A13.out).mono ?_); rintro e w' ⟨rfl, ⟨nd, rfl⟩⟩; refine ⟨_, rfl, ?_⟩))
            go_meet
            case rel => exact ⟨_, (true), (by first | rfl | (simp; done) | (simp [*]; done)), H', ⟨by first | omega | exact Nat.le_refl _⟩, ⟨by (with_reducible repeat (first | apply Kd.R_alloc | apply Kd.R_drewN | apply Kd.R_drew)); exact HO583.out⟩, ⟨by repeat (first | (with_reducible first | exact HB.out | apply below_alloc | apply pw_below_drewN | apply below_drew1) | exact HB.out)⟩⟩
        case rest =>
          clear HC9
          try clear c1
          try clear c2
          try clear p2
          try clear c3
          try clear c4
          try clear p5
          try clear q5
          try clear hx5
          try clear qi5
          try clear c6
          try clear p6
          try clear c7
          try clear c7b0
          try clear c7b1
          try clear c11
          try clear c14
          try clear c14b0
          try clear c14b1
          try clear c15
          try clear c15b0
          try clear c15b1
          try clear c15b2
          try clear c17
          try clear c17b0
          try clear c19
          try clear c19b0
          try clear c19b1
          try clear c20
          try clear c20b0
          try clear c20b1
          try clear c22
          try clear c22b0
          try clear c23
          try clear c23b0
          try clear c24
          try clear hji21
          try clear hji21w
          try clear hx585_0
          try clear hx586_0
          try clear p585
          try clear p586
          try clear q585
          try clear q586
          obtain ⟨kq, x58_8, rfl, HA, HJ8, HO_6, HB⟩ := hcut
          cases kq with
          | zero => exact absurd HA.out (by simp [sleuthlaw24_BackFalls.j0])
          | succ kj8 =>
            have H := HA.out
            clear HA
            simp only [sleuthlaw24_BackFalls.j0] at H
            by_cases c26 : x58_8 = true
            · subst c26
              have H1 : (some false) = some r := by rw [if_pos rfl] at H; exact H
              clear H
              have H := H1
              clear H1
              obtain rfl := Option.some.inj H
              go_wp2
              go_ret
              exact ⟨by first | rfl | (simp [errW_none, errW_some] <;> rfl) | (simp [*, errW_none, errW_some] <;> rfl), by repeat (first | (with_reducible first | exact HB.out | apply below_alloc | apply pw_below_drewN | apply below_drew1) | exact HB.out)⟩
            · replace c26 := Bool.eq_false_iff.mpr c26
              subst c26
              have H1 : (if (wrap64 (Int.tmod (IntKind.u64.wrap (a1)) (IntKind.u64.wrap ((l0.length : Int))))) = 0 then (some ((t580.length : Int) == 1)) else (if 0 ≤ (wrap64 (Int.tmod (IntKind.u64.wrap (a1)) (IntKind.u64.wrap ((l0.length : Int))))) then (if (wrap64 (Int.tmod (IntKind.u64.wrap (a1)) (IntKind.u64.wrap ((l0.length : Int))))) < (l0.length : Int) then ((back_Path.f kj8 l0 ((rd_T44 l0 (wrap64 (Int.tmod (IntKind.u64.wrap (a1)) (IntKind.u64.wrap ((l0.length : Int)))))).f1)).bind fun bt588 => ((sleuthlaw0_Num.f bt588.2).bind fun t592 => (if t592 = 0 then (if 1 ≤ (t580.length : Int) then ((sleuthlaw0_SameInts.f kj8 bt588.1 (t580.drop 1)).bind fun t597 => (some t597)) else (none)) else (some false)))) else (none)) else (none))) = some r := by rw [if_neg (show ¬ (false = true) by decide)] at H; exact H
              clear H
              have H := H1
              clear H1
              by_cases c27 : (wrap64 (Int.tmod (IntKind.u64.wrap (a1)) (IntKind.u64.wrap ((l0.length : Int))))) = 0
              · rw [if_pos c27] at H
                have c27b0 : ((wrap64 (Int.tmod (IntKind.u64.wrap (a1)) (IntKind.u64.wrap ((l0.length : Int))))) == 0) = true := beq_iff_eq.mpr c27
                have c27b1 : ((wrap64 (Int.tmod (IntKind.u64.wrap (a1)) (IntKind.u64.wrap ((l0.length : Int))))) != 0) = false := bne_eq_false_iff_eq.mpr c27
                (try (have c27b0w := c27b0; (rw [show wrap64 (Int.tmod (IntKind.u64.wrap (a1)) (IntKind.u64.wrap ((l0.length : Int)))) = (Int.tmod (IntKind.u64.wrap (a1)) (IntKind.u64.wrap ((l0.length : Int)))) from by unfold wrap64; omega] at c27b0w)))
                (try (have c27b1w := c27b1; (rw [show wrap64 (Int.tmod (IntKind.u64.wrap (a1)) (IntKind.u64.wrap ((l0.length : Int)))) = (Int.tmod (IntKind.u64.wrap (a1)) (IntKind.u64.wrap ((l0.length : Int)))) from by unfold wrap64; omega] at c27b1w)))
                clear c27
                obtain rfl := Option.some.inj H
                obtain ⟨Ao28, co28, eo28⟩ := Kd.R_slice HO_6.out
                subst eo28
                go_wp2
                go_ret
                exact ⟨by first | rfl | (simp [errW_none, errW_some] <;> rfl) | (simp [*, errW_none, errW_some] <;> rfl), by repeat (first | (with_reducible first | exact HB.out | apply below_alloc | apply pw_below_drewN | apply below_drew1) | exact HB.out)⟩
              · rw [if_neg c27] at H
                have c27b0 : ((wrap64 (Int.tmod (IntKind.u64.wrap (a1)) (IntKind.u64.wrap ((l0.length : Int))))) == 0) = false := beq_eq_false_iff_ne.mpr c27
                have c27b1 : ((wrap64 (Int.tmod (IntKind.u64.wrap (a1)) (IntKind.u64.wrap ((l0.length : Int))))) != 0) = true := bne_iff_ne.mpr c27
                (try (have c27b0w := c27b0; (rw [show wrap64 (Int.tmod (IntKind.u64.wrap (a1)) (IntKind.u64.wrap ((l0.length : Int)))) = (Int.tmod (IntKind.u64.wrap (a1)) (IntKind.u64.wrap ((l0.length : Int)))) from by unfold wrap64; omega] at c27b0w)))
                (try (have c27b1w := c27b1; (rw [show wrap64 (Int.tmod (IntKind.u64.wrap (a1)) (IntKind.u64.wrap ((l0.length : Int)))) = (Int.tmod (IntKind.u64.wrap (a1)) (IntKind.u64.wrap ((l0.length : Int)))) from by unfold wrap64; omega] at c27b1w)))
                obtain ⟨ji29, hji29⟩ : ∃ j_ : Int, (wrap64 (Int.tmod (IntKind.u64.wrap (a1)) (IntKind.u64.wrap ((l0.length : Int))))) = j_ := ⟨_, rfl⟩
                replace H : (if 0 ≤ (ji29) then (if (ji29) < (l0.length : Int) then ((back_Path.f kj8 l0 ((rd_T44 l0 (ji29)).f1)).bind fun bt588 => ((sleuthlaw0_Num.f bt588.2).bind fun t592 => (if t592 = 0 then (if 1 ≤ (t580.length : Int) then ((sleuthlaw0_SameInts.f kj8 bt588.1 (t580.drop 1)).bind fun t597 => (some t597)) else (none)) else (some false)))) else (none)) else (none)) = some r := by first | (rw [hji29] at H; exact H) | (simp only [hji29] at H ⊢; exact H)
                (try rw [hji29] at c27b0)
                (try rw [hji29] at c27b1)
                have hji29w : (IntKind.i64.wrap (Int.tmod (IntKind.u64.wrap (a1)) (IntKind.u64.wrap ((l0.length : Int))))) = ji29 := (i64_w _).trans hji29
                by_cases c30 : 0 ≤ (ji29)
                · rw [if_pos c30] at H
                  have c30b0 : decide (0 ≤ (ji29)) = true := decide_eq_true c30
                  clear c30
                  by_cases c31 : (ji29) < (l0.length : Int)
                  · rw [if_pos c31] at H
                    have c31b0 : decide ((ji29) < (l0.length : Int)) = true := decide_eq_true c31
                    clear c31
                    replace H := Option.bind_eq_some_iff.mp H
                    obtain ⟨⟨t588, t589⟩, A320, H⟩ := H
                    replace H : ((sleuthlaw0_Num.f t589).bind fun t592 => (if t592 = 0 then (if 1 ≤ (t580.length : Int) then ((sleuthlaw0_SameInts.f kj8 t588 (t580.drop 1)).bind fun t597 => (some t597)) else (none)) else (some false))) = some r := H
                    have A32 := Aside0.mk A320
                    clear A320
                    replace H := Option.bind_eq_some_iff.mp H
                    obtain ⟨t592, A330, H⟩ := H
                    replace H : (if t592 = 0 then (if 1 ≤ (t580.length : Int) then ((sleuthlaw0_SameInts.f kj8 t588 (t580.drop 1)).bind fun t597 => (some t597)) else (none)) else (some false)) = some r := H
                    have A33 := Aside0.mk A330
                    clear A330
                    by_cases c34 : t592 = 0
                    · rw [if_pos c34] at H
                      have c34b0 : (t592 == 0) = true := beq_iff_eq.mpr c34
                      have c34b1 : (t592 != 0) = false := bne_eq_false_iff_eq.mpr c34
                      clear c34
                      by_cases c35 : 1 ≤ (t580.length : Int)
                      · rw [if_pos c35] at H
                        have c35b0 := eq_true c35
                        have c35b1 : decide (1 ≤ (t580.length : Int)) = true := decide_eq_true c35
                        clear c35
                        obtain ⟨y593, hy593⟩ : ∃ y_ : List Int, y_ = (t580.drop 1) := ⟨_, rfl⟩
                        replace H : ((sleuthlaw0_SameInts.f kj8 t588 y593).bind fun t597 => (some t597)) = some r := by first | (rw [hy593]; with_reducible exact H) | (have H2_ := (Option.bind_some _ _).symm.trans H; rw [hy593]; with_reducible exact H2_) | (have H2_ := (Option.bind_some _ _).symm.trans H; with_reducible exact H2_) | with_reducible exact H | (rw [hy593]; exact H) | exact H
                        have Ny593 := Aside0.mk hy593
                        clear hy593
                        replace H := Option.bind_eq_some_iff.mp H
                        obtain ⟨t597, A360, H⟩ := H
                        replace H : (some t597) = some r := H
                        have A36 := Aside0.mk A360
                        clear A360
                        obtain rfl := Option.some.inj H
                        have p587 : 0 ≤ ((ji29) : Int) := of_decide_eq_true hA_
                        have q587 : (ji29) < (l0.length : Int) := of_decide_eq_true hA_
                        obtain ⟨ad587, A587_2, c587_2, e587, hx587_0, hx587_1, hx587_2, hx587_3, hl587_2, hi587_2⟩ := at_T44 HR0.out (ji29) p587 q587
                        cases e587
                        replace hx587_0 := (HB.out.cell (World.block_lt_of_cell? w _ hx587_0)).trans hx587_0
                        replace hx587_1 := (HB.out.cell (World.block_lt_of_cell? w _ hx587_1)).trans hx587_1
                        replace hx587_2 := (HB.out.cell (World.block_lt_of_cell? w _ hx587_2)).trans hx587_2
                        replace hx587_3 := (HB.out.cell (World.block_lt_of_cell? w _ hx587_3)).trans hx587_3
                        have HR587_2 := Aside0.mk hi587_2
                        have HC587_2 := Aside0.mk hl587_2
                        clear hi587_2 hl587_2
                        replace p587 := eq_true p587
                        replace q587 := eq_true q587
                        go_wp2_with (first | ((with_reducible refine gate_callee (f := 26) rfl ?_); refine goesL_ (some 71) rfl rfl Tryd.func26 (by kernel_rfl) rfl #[.slice (some ad587) l0.length c0, .int .i64 ((rd_T44 l0 (ji29)).f1)] rfl (by (try simp only [List.map_toArray, List.map_cons, List.map_nil]); first | done | (simp only [hji29]; rfl) | rfl | (simp only [List.length_drop, List.length_take]; rfl)) ?_; (with_reducible refine (back_Path.calls kj8 _ _ l0 ((rd_T44 l0 (ji29)).f1) t588 t589 _ ?side1 ?side2 A32.out hG_).mono ?_); (case side1 => repeat (first | exact (Kd.C_below HR0.out HB.out) | (with_reducible refine Kd.C_alloc ?_ _) | (with_reducible refine Kd.C_drewN ?_ _) | (with_reducible refine Kd.C_drew ?_))); (case side2 => exact HC0.out); rintro e w37 ⟨v590, rfl, ho0, hb⟩; refine ⟨_, rfl, ?_⟩; have n0_ := Aside0.mk (Kd.R_elder' (hR_ HO_6.out) (Kd.R_base ho0) hb); have n1_ := Aside0.mk (Kd.R_lower (Kd.R_new' ho0 (Kd.R_lt (hR_ HO_6.out))) hS_); have n2_ := Aside0.mk (below_step hB_ hb); clear HO_6; clear HB; have HO_6 := n0_; have HO591 := n1_; have HB := n2_; clear n0_ n1_ n2_; (try clear hb); (try clear hb2); (try clear hk); (try clear hi); (try clear ho0)) | ((with_reducible refine gate_callee (f := 20) rfl ?_); refine goesL_ (some 75) rfl rfl Tryd.func20 (by kernel_rfl) rfl #[.int .i64 t589] rfl hL_ ?_; (with_reducible refine (sleuthlaw0_Num.calls t589 t592 _ A33.out).mono ?_); rintro e w' ⟨rfl, ⟨nd, rfl⟩⟩; refine ⟨_, rfl, ?_⟩; obtain ⟨Ao39, co39, eo39⟩ := Kd.R_slice HO_6.out; subst eo39; have q38 : (1 : Int) ≤ ((t580.length : Int) : Int) := of_decide_eq_true hA_; obtain ⟨i038, hi038, _, hsz38, _⟩ := info_parts info3; have hroom38 : t580.length ≤ co39 := (Kd.R_reads' HO_6.out).2.1; have hC38 : Kd.C (Kd.int .i64) _ Ao39 t580.length t580 := (Kd.R_reads' HO_6.out).2.2; have hcut38 := cut_from (P := Tryd.prog) 24 3 .i64 Tryd.underlying24 hi038 1 hsz38 Ao39 t580.length co39 1 (by omega) q38; have hr38 := Kd.C_drop (m := (1 : Int).toNat) (c := co39) hC38 (by omega) hroom38; obtain ⟨A38, hA38⟩ : ∃ A1, A1 = (if co39 = (1 : Int).toNat then Ao39 else (Ao39 : Option Addr).map (·.add ((1 : Int).toNat * 1))) := ⟨_, rfl⟩; obtain ⟨c38, hc38⟩ : ∃ c1, c1 = co39 - (1 : Int).toNat := ⟨_, rfl⟩; have hy38 : y593.length = t580.length - (1 : Int).toNat := (by rw [Ny593.out, List.length_drop] <;> omega); rw [show (t580).drop (1 : Int).toNat = y593 from Ny593.out.symm] at hr38; replace hr38 : Kd.C (Kd.int .i64) _ A38 y593.length y593 := (by rw [hA38]; exact hr38); rw [← hy38, ← hA38, ← hc38] at hcut38; have HR596 := Aside0.mk hr38; have HC596 := Aside0.mk (show y593.length ≤ c38 from by rw [hy38, hc38]; exact Nat.sub_le_sub_right hroom38 _); clear hr38 hC38 hroom38 hi038 hsz38 hc38; have KY38 := Aside0.mk hy38; have KA38 := Aside0.mk hA38; clear hy38 hA38; have KL38 := Aside0.mk (show 1 ≤ t580.length from by omega); replace q38 := eq_true q38; obtain ⟨Ao40, co40, eo40⟩ := Kd.R_slice HO591.out; subst eo40) | (go_at_call 19; (with_reducible refine (sleuthlaw0_SameInts.calls kj8 _ _ t588 _ _ y593 t597 _ ?side1 ?side2 ?side3 ?side4 A36.out).mono ?_); (case side1 => repeat (first | exact (Kd.R_reads' HO591.out).2.2 | (with_reducible refine Kd.C_alloc ?_ _) | (with_reducible refine Kd.C_drewN ?_ _) | (with_reducible refine Kd.C_drew ?_))); (case side2 => exact (Kd.R_reads' HO591.out).2.1); (case side3 => repeat (first | exact (by repeat (first | (with_reducible exact HR596.out) | (with_reducible refine Kd.C_alloc ?_ _) | (with_reducible refine Kd.C_drewN ?_ _) | (with_reducible refine Kd.C_drew ?_) | exact HR596.out)) | (with_reducible refine Kd.C_alloc ?_ _) | (with_reducible refine Kd.C_drewN ?_ _) | (with_reducible refine Kd.C_drew ?_))); (case side4 => exact HC596.out); rintro e w' ⟨rfl, ⟨nd, rfl⟩⟩))
                        go_ret
                        exact ⟨by first | rfl | (simp [errW_none, errW_some] <;> rfl) | (simp only [← hji29]; first | rfl | (simp [errW_none, errW_some] <;> rfl)) | (simp [*, errW_none, errW_some] <;> rfl), by repeat (first | (with_reducible first | exact HB.out | apply below_alloc | apply pw_below_drewN | apply below_drew1) | exact HB.out)⟩
                      · rw [if_neg c35] at H
                        exact absurd H (by simp)
                    · rw [if_neg c34] at H
                      have c34b0 : (t592 == 0) = false := beq_eq_false_iff_ne.mpr c34
                      have c34b1 : (t592 != 0) = true := bne_iff_ne.mpr c34
                      obtain rfl := Option.some.inj H
                      have p587 : 0 ≤ ((ji29) : Int) := of_decide_eq_true hA_
                      have q587 : (ji29) < (l0.length : Int) := of_decide_eq_true hA_
                      obtain ⟨ad587, A587_2, c587_2, e587, hx587_0, hx587_1, hx587_2, hx587_3, hl587_2, hi587_2⟩ := at_T44 HR0.out (ji29) p587 q587
                      cases e587
                      replace hx587_0 := (HB.out.cell (World.block_lt_of_cell? w _ hx587_0)).trans hx587_0
                      replace hx587_1 := (HB.out.cell (World.block_lt_of_cell? w _ hx587_1)).trans hx587_1
                      replace hx587_2 := (HB.out.cell (World.block_lt_of_cell? w _ hx587_2)).trans hx587_2
                      replace hx587_3 := (HB.out.cell (World.block_lt_of_cell? w _ hx587_3)).trans hx587_3
                      have HR587_2 := Aside0.mk hi587_2
                      have HC587_2 := Aside0.mk hl587_2
                      clear hi587_2 hl587_2
                      replace p587 := eq_true p587
                      replace q587 := eq_true q587
                      go_wp2_with (first | ((with_reducible refine gate_callee (f := 26) rfl ?_); refine goesL_ (some 71) rfl rfl Tryd.func26 (by kernel_rfl) rfl #[.slice (some ad587) l0.length c0, .int .i64 ((rd_T44 l0 (ji29)).f1)] rfl (by (try simp only [List.map_toArray, List.map_cons, List.map_nil]); first | done | (simp only [hji29]; rfl) | rfl | (simp only [List.length_drop, List.length_take]; rfl)) ?_; (with_reducible refine (back_Path.calls kj8 _ _ l0 ((rd_T44 l0 (ji29)).f1) t588 t589 _ ?side1 ?side2 A32.out hG_).mono ?_); (case side1 => repeat (first | exact (Kd.C_below HR0.out HB.out) | (with_reducible refine Kd.C_alloc ?_ _) | (with_reducible refine Kd.C_drewN ?_ _) | (with_reducible refine Kd.C_drew ?_))); (case side2 => exact HC0.out); rintro e w41 ⟨v590, rfl, ho0, hb⟩; refine ⟨_, rfl, ?_⟩; have n0_ := Aside0.mk (Kd.R_elder' (hR_ HO_6.out) (Kd.R_base ho0) hb); have n1_ := Aside0.mk (Kd.R_lower (Kd.R_new' ho0 (Kd.R_lt (hR_ HO_6.out))) hS_); have n2_ := Aside0.mk (below_step hB_ hb); clear HO_6; clear HB; have HO_6 := n0_; have HO591 := n1_; have HB := n2_; clear n0_ n1_ n2_; (try clear hb); (try clear hb2); (try clear hk); (try clear hi); (try clear ho0)) | ((with_reducible refine gate_callee (f := 20) rfl ?_); refine goesL_ (some 75) rfl rfl Tryd.func20 (by kernel_rfl) rfl #[.int .i64 t589] rfl hL_ ?_; (with_reducible refine (sleuthlaw0_Num.calls t589 t592 _ A33.out).mono ?_); rintro e w' ⟨rfl, ⟨nd, rfl⟩⟩; refine ⟨_, rfl, ?_⟩))
                      go_ret
                      exact ⟨by first | rfl | (simp [errW_none, errW_some] <;> rfl) | (simp only [← hji29]; first | rfl | (simp [errW_none, errW_some] <;> rfl)) | (simp [*, errW_none, errW_some] <;> rfl), by repeat (first | (with_reducible first | exact HB.out | apply below_alloc | apply pw_below_drewN | apply below_drew1) | exact HB.out)⟩
                  · rw [if_neg c31] at H
                    exact absurd H (by simp)
                · rw [if_neg c30] at H
                  exact absurd H (by simp)
    · replace c6 := Bool.eq_false_iff.mpr c6
      subst c6
      have H1 : (some true) = some r := by rw [if_neg (show ¬ (false = true) by decide)] at H; exact H
      clear H
      have H := H1
      clear H1
      obtain rfl := Option.some.inj H
      go_enter Tryd.func11, Tryd.ntmps11
      go_wp2_with (first | ((with_reducible refine gate_callee (f := 30) rfl ?_); refine goesL_ (some 10) rfl rfl Tryd.func30 (by kernel_rfl) rfl #[] rfl hL_ ?_; (with_reducible refine (sleuthlaw24_awake.calls k  true _ A3.out hG_).mono ?_); rintro e w42 ⟨rfl, hb⟩; refine ⟨_, rfl, ?_⟩; have n0_ := Aside0.mk (below_step hB_ hb); clear HB; have HB := n0_; clear n0_; (try clear hb); (try clear hb2); (try clear hk); (try clear hi)) | ((with_reducible refine gate_callee (f := 24) rfl ?_); refine goesL_ (some 13) rfl rfl Tryd.func24 (by kernel_rfl) rfl #[.slice A0 l0.length c0] rfl hL_ ?_; (with_reducible refine (sleuthref12_TrailMay.calls k _ _ l0 false _ ?side1 ?side2 A5.out).mono ?_); (case side1 => repeat (first | exact (Kd.C_below HR0.out HB.out) | (with_reducible refine Kd.C_alloc ?_ _) | (with_reducible refine Kd.C_drewN ?_ _) | (with_reducible refine Kd.C_drew ?_))); (case side2 => exact HC0.out); rintro e w43 ⟨rfl, hb⟩; refine ⟨_, rfl, ?_⟩; have n0_ := Aside0.mk (below_step hB_ hb); clear HB; have HB := n0_; clear n0_; (try clear hb); (try clear hb2); (try clear hk); (try clear hi)))
      go_ret
      exact ⟨by first | rfl | (simp [errW_none, errW_some] <;> rfl) | (simp [*, errW_none, errW_some] <;> rfl), by repeat (first | (with_reducible first | exact HB.out | apply below_alloc | apply pw_below_drewN | apply below_drew1) | exact HB.out)⟩
  · replace c4 := Bool.eq_false_iff.mpr c4
    subst c4
    have H1 : (some false) = some r := by rw [if_neg (show ¬ (false = true) by decide)] at H; exact H
    clear H
    have H := H1
    clear H1
    obtain rfl := Option.some.inj H
    go_enter Tryd.func11, Tryd.ntmps11
    go_wp2_with (first | ((with_reducible refine gate_callee (f := 30) rfl ?_); refine goesL_ (some 10) rfl rfl Tryd.func30 (by kernel_rfl) rfl #[] rfl hL_ ?_; (with_reducible refine (sleuthlaw24_awake.calls k  false _ A3.out hG_).mono ?_); rintro e w44 ⟨rfl, hb⟩; refine ⟨_, rfl, ?_⟩; have n0_ := Aside0.mk (below_step hB_ hb); clear HB; have HB := n0_; clear n0_; (try clear hb); (try clear hb2); (try clear hk); (try clear hi)))
    go_ret
    exact ⟨by first | rfl | (simp [errW_none, errW_some] <;> rfl) | (simp [*, errW_none, errW_some] <;> rfl), by repeat (first | (with_reducible first | exact HB.out | apply below_alloc | apply pw_below_drewN | apply below_drew1) | exact HB.out)⟩

end Go.Proofs.YtgcdbpnflchobaaDoor.G
