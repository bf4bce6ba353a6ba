-- Laid by the session's own driver gp.py over the kit's printer. Not trusted: Lean checks it.
import Derived.Test.YtgcdbpnflchobaaDoorBase
import Derived.Test.YtgcdbpnflchobaaDoorGN
import Derived.Test.YtgcdbpnflchobaaDoorGK
import Derived.Test.YtgcdbpnflchobaaDoorGD
import Derived.Test.YtgcdbpnflchobaaDoorG31
namespace Go.Proofs.YtgcdbpnflchobaaDoor.G
open Go.RowKit Go.Proofs.YtgcdbpnflchobaaDoorW.PrintWords Go.Proofs.YtgcdbpnflchobaaDoorW.PrintLast Go.Proofs.YtgcdbpnflchobaaDoorW.PrintMore
attribute [local go_sem] max2_int min2_int max_two min_two max_three min_three max_four min_four   -- for this text's walks alone
set_option linter.unusedVariables false
set_option linter.unusedSimpArgs false

/-! ### sleuthlaw13_Trees: function 3 -/
def sleuthlaw13_Trees.j0 : Nat → List (S44) → List (S44) → List Int → Bool → Option (Bool)
  | 0, _, _, _, _ => none
  | k + 1, x0, x5, x6, x60 => if x60 = true then (some false) else ((sleuthlaw0_SpoilInts.f k x6).bind fun t363 => ((sleuthlaw0_SameNodes.f k x5 x0).bind fun t364 => (if t364 = true then ((sleuthlaw13_awake.f k).bind fun t365 => (some t365)) else (some false))))
def sleuthlaw13_Trees.f (k : Nat) (l0 : List (S44)) (a1 : Int) : Option (Bool) := (sleuthlaw0_CopyNodes.f k l0).bind fun t345 => ((tree_Kids.f k t345 a1).bind fun bt348 => ((sleuthref12_Kids.f k l0 a1).bind fun bt352 => ((tree_Size.f k t345 a1).bind fun bt356 => ((sleuthref12_Size.f k l0 a1).bind fun bt358 => ((sleuthlaw0_SameInts.f k bt348.1 bt352.1).bind fun t360 => (if t360 = true then ((sleuthlaw0_Num.f bt348.2).bind fun t361 => (if t361 = bt352.2 then (if bt356.1 = bt358.1 then ((sleuthlaw0_Num.f bt356.2).bind fun t362 => (sleuthlaw13_Trees.j0 k l0 t345 bt348.1 (t362 != bt358.2))) else (sleuthlaw13_Trees.j0 k l0 t345 bt348.1 true)) else (sleuthlaw13_Trees.j0 k l0 t345 bt348.1 true))) else (sleuthlaw13_Trees.j0 k l0 t345 bt348.1 true)))))))
theorem sleuthlaw13_Trees.mono_l : ∀ k, (∀ y0 y1 y2 y3, LeO (sleuthlaw13_Trees.j0 k y0 y1 y2 y3) (sleuthlaw13_Trees.j0 (k + 1) y0 y1 y2 y3))
  | 0 => fun _ _ _ _ r h => by simp [sleuthlaw13_Trees.j0] at h
  | k + 1 => by
    have ih0 := sleuthlaw13_Trees.mono_l k
    · intro y0 y1 y2 y3
      unfold sleuthlaw13_Trees.j0
      repeat' first
      | (with_reducible exact ih0 _ _ _ _)
      | (with_reducible exact sleuthlaw0_CopyNodes.mono _ _)
      | (with_reducible exact sleuthlaw0_SameInts.mono _ _ _)
      | (with_reducible exact sleuthlaw0_SameNodes.mono _ _ _)
      | (with_reducible exact sleuthlaw0_SpoilInts.mono _ _)
      | (with_reducible exact sleuthlaw13_awake.mono _)
      | (with_reducible exact sleuthref12_Kids.mono _ _ _)
      | (with_reducible exact sleuthref12_Size.mono _ _ _)
      | (with_reducible exact tree_Kids.mono _ _ _)
      | (with_reducible exact tree_Size.mono _ _ _)
      | (with_reducible exact LeO.refl _)
      | (with_reducible exact LeO.none _)
      | (with_reducible refine LeO.ite ?_ ?_)
      | (with_reducible refine LeO.bind ?_ (fun _ => ?_))
      | exact ih0 _ _ _ _
      | exact sleuthlaw0_CopyNodes.mono _ _
      | exact sleuthlaw0_SameInts.mono _ _ _
      | exact sleuthlaw0_SameNodes.mono _ _ _
      | exact sleuthlaw0_SpoilInts.mono _ _
      | exact sleuthlaw13_awake.mono _
      | exact sleuthref12_Kids.mono _ _ _
      | exact sleuthref12_Size.mono _ _ _
      | exact tree_Kids.mono _ _ _
      | exact tree_Size.mono _ _ _
      | exact LeO.none _
      | refine LeO.ite ?_ ?_
      | refine LeO.bind ?_ (fun _ => ?_)
theorem sleuthlaw13_Trees.mono : ∀ a0 a1 k, LeO (sleuthlaw13_Trees.f k a0 a1) (sleuthlaw13_Trees.f (k + 1) a0 a1) := by
  intro a0 a1 k
  have ih0 := sleuthlaw13_Trees.mono_l k
  unfold sleuthlaw13_Trees.f
  repeat' first
      | (with_reducible exact ih0 _ _ _ _)
      | (with_reducible exact sleuthlaw0_CopyNodes.mono _ _)
      | (with_reducible exact sleuthlaw0_SameInts.mono _ _ _)
      | (with_reducible exact sleuthlaw0_SameNodes.mono _ _ _)
      | (with_reducible exact sleuthlaw0_SpoilInts.mono _ _)
      | (with_reducible exact sleuthlaw13_awake.mono _)
      | (with_reducible exact sleuthref12_Kids.mono _ _ _)
      | (with_reducible exact sleuthref12_Size.mono _ _ _)
      | (with_reducible exact tree_Kids.mono _ _ _)
      | (with_reducible exact tree_Size.mono _ _ _)
      | (with_reducible exact LeO.refl _)
      | (with_reducible exact LeO.none _)
      | (with_reducible refine LeO.ite ?_ ?_)
      | (with_reducible refine LeO.bind ?_ (fun _ => ?_))
      | exact ih0 _ _ _ _
      | exact sleuthlaw0_CopyNodes.mono _ _
      | exact sleuthlaw0_SameInts.mono _ _ _
      | exact sleuthlaw0_SameNodes.mono _ _ _
      | exact sleuthlaw0_SpoilInts.mono _ _
      | exact sleuthlaw13_awake.mono _
      | exact sleuthref12_Kids.mono _ _ _
      | exact sleuthref12_Size.mono _ _ _
      | exact tree_Kids.mono _ _ _
      | exact tree_Size.mono _ _ _
      | exact LeO.none _
      | refine LeO.ite ?_ ?_
      | refine LeO.bind ?_ (fun _ => ?_)
set_option maxHeartbeats 8000000 in
set_option maxRecDepth 100000 in
theorem sleuthlaw13_Trees.calls (k : Nat) (A0 : Option Addr) (c0 : Nat) (l0 : List (S44)) (a1 : Int) (r : Bool) (w : World) (hr0 : Kd.C k44 w A0 l0.length l0) (hc0 : l0.length ≤ c0) (h : sleuthlaw13_Trees.f k l0 a1 = some r) (hG : GOK w) :
    Calls Tryd.prog 3 #[.slice A0 l0.length c0, .int .i64 a1] w fun e w' => e = .returned (.bool r) ∧ Below w.heap.size w w' := by
  have HR0 := Aside0.mk hr0
  have HC0 := Aside0.mk hc0
  clear hr0 hc0
  have HB := Aside0.mk (Below.refl w.heap.size w)
  have H : ((sleuthlaw0_CopyNodes.f k l0).bind fun t345 => ((tree_Kids.f k t345 a1).bind fun bt348 => ((sleuthref12_Kids.f k l0 a1).bind fun bt352 => ((tree_Size.f k t345 a1).bind fun bt356 => ((sleuthref12_Size.f k l0 a1).bind fun bt358 => ((sleuthlaw0_SameInts.f k bt348.1 bt352.1).bind fun t360 => (if t360 = true then ((sleuthlaw0_Num.f bt348.2).bind fun t361 => (if t361 = bt352.2 then (if bt356.1 = bt358.1 then ((sleuthlaw0_Num.f bt356.2).bind fun t362 => (sleuthlaw13_Trees.j0 k l0 t345 bt348.1 (t362 != bt358.2))) else (sleuthlaw13_Trees.j0 k l0 t345 bt348.1 true)) else (sleuthlaw13_Trees.j0 k l0 t345 bt348.1 true))) else (sleuthlaw13_Trees.j0 k l0 t345 bt348.1 true)))))))) = some r := h
  clear h
  replace H := Option.bind_eq_some_iff.mp H
  obtain ⟨t345, A30, H⟩ := H
  replace H : ((tree_Kids.f k t345 a1).bind fun bt348 => ((sleuthref12_Kids.f k l0 a1).bind fun bt352 => ((tree_Size.f k t345 a1).bind fun bt356 => ((sleuthref12_Size.f k l0 a1).bind fun bt358 => ((sleuthlaw0_SameInts.f k bt348.1 bt352.1).bind fun t360 => (if t360 = true then ((sleuthlaw0_Num.f bt348.2).bind fun t361 => (if t361 = bt352.2 then (if bt356.1 = bt358.1 then ((sleuthlaw0_Num.f bt356.2).bind fun t362 => (sleuthlaw13_Trees.j0 k l0 t345 bt348.1 (t362 != bt358.2))) else (sleuthlaw13_Trees.j0 k l0 t345 bt348.1 true)) else (sleuthlaw13_Trees.j0 k l0 t345 bt348.1 true))) else (sleuthlaw13_Trees.j0 k l0 t345 bt348.1 true))))))) = some r := H
  have A3 := Aside0.mk A30
  clear A30
  replace H := Option.bind_eq_some_iff.mp H
  obtain ⟨⟨t348, t349⟩, A40, H⟩ := H
  replace H : ((sleuthref12_Kids.f k l0 a1).bind fun bt352 => ((tree_Size.f k t345 a1).bind fun bt356 => ((sleuthref12_Size.f k l0 a1).bind fun bt358 => ((sleuthlaw0_SameInts.f k t348 bt352.1).bind fun t360 => (if t360 = true then ((sleuthlaw0_Num.f t349).bind fun t361 => (if t361 = bt352.2 then (if bt356.1 = bt358.1 then ((sleuthlaw0_Num.f bt356.2).bind fun t362 => (sleuthlaw13_Trees.j0 k l0 t345 t348 (t362 != bt358.2))) else (sleuthlaw13_Trees.j0 k l0 t345 t348 true)) else (sleuthlaw13_Trees.j0 k l0 t345 t348 true))) else (sleuthlaw13_Trees.j0 k l0 t345 t348 true)))))) = some r := H
  have A4 := Aside0.mk A40
  clear A40
  replace H := Option.bind_eq_some_iff.mp H
  obtain ⟨⟨t352, t353⟩, A50, H⟩ := H
  replace H : ((tree_Size.f k t345 a1).bind fun bt356 => ((sleuthref12_Size.f k l0 a1).bind fun bt358 => ((sleuthlaw0_SameInts.f k t348 t352).bind fun t360 => (if t360 = true then ((sleuthlaw0_Num.f t349).bind fun t361 => (if t361 = t353 then (if bt356.1 = bt358.1 then ((sleuthlaw0_Num.f bt356.2).bind fun t362 => (sleuthlaw13_Trees.j0 k l0 t345 t348 (t362 != bt358.2))) else (sleuthlaw13_Trees.j0 k l0 t345 t348 true)) else (sleuthlaw13_Trees.j0 k l0 t345 t348 true))) else (sleuthlaw13_Trees.j0 k l0 t345 t348 true))))) = some r := H
  have A5 := Aside0.mk A50
  clear A50
  replace H := Option.bind_eq_some_iff.mp H
  obtain ⟨⟨t356, t357⟩, A60, H⟩ := H
  replace H : ((sleuthref12_Size.f k l0 a1).bind fun bt358 => ((sleuthlaw0_SameInts.f k t348 t352).bind fun t360 => (if t360 = true then ((sleuthlaw0_Num.f t349).bind fun t361 => (if t361 = t353 then (if t356 = bt358.1 then ((sleuthlaw0_Num.f t357).bind fun t362 => (sleuthlaw13_Trees.j0 k l0 t345 t348 (t362 != bt358.2))) else (sleuthlaw13_Trees.j0 k l0 t345 t348 true)) else (sleuthlaw13_Trees.j0 k l0 t345 t348 true))) else (sleuthlaw13_Trees.j0 k l0 t345 t348 true)))) = some r := H
  have A6 := Aside0.mk A60
  clear A60
  replace H := Option.bind_eq_some_iff.mp H
  obtain ⟨⟨t358, t359⟩, A70, H⟩ := H
  replace H : ((sleuthlaw0_SameInts.f k t348 t352).bind fun t360 => (if t360 = true then ((sleuthlaw0_Num.f t349).bind fun t361 => (if t361 = t353 then (if t356 = t358 then ((sleuthlaw0_Num.f t357).bind fun t362 => (sleuthlaw13_Trees.j0 k l0 t345 t348 (t362 != t359))) else (sleuthlaw13_Trees.j0 k l0 t345 t348 true)) else (sleuthlaw13_Trees.j0 k l0 t345 t348 true))) else (sleuthlaw13_Trees.j0 k l0 t345 t348 true))) = some r := H
  have A7 := Aside0.mk A70
  clear A70
  have HC8 := Aside0.mk H
  clear H
  go_enter Tryd.func3, Tryd.ntmps3
  go_upto_region 6 with (first | ((with_reducible refine gate_callee (f := 14) rfl ?_); refine goesL_ (some 15) rfl rfl Tryd.func14 (by kernel_rfl) rfl #[.slice A0 l0.length c0] rfl hL_ ?_; (with_reducible refine (sleuthlaw0_CopyNodes.calls k _ _ l0 t345 _ ?side1 ?side2 A3.out).mono ?_); (case side1 => repeat (first | exact HR0.out | (with_reducible refine Kd.C_alloc ?_ _) | (with_reducible refine Kd.C_drewN ?_ _) | (with_reducible refine Kd.C_drew ?_))); (case side2 => exact HC0.out); rintro e w9 ⟨v346, rfl, ho0, hb⟩; refine ⟨_, rfl, ?_⟩; have n0_ := Aside0.mk (Kd.S_lower ho0 hS_); have n1_ := Aside0.mk (below_step hB_ hb); clear HB; have HO347 := n0_; have HB := n1_; clear n0_ n1_; (try clear hb); (try clear hb2); (try clear hk); (try clear hi); (try clear ho0); obtain ⟨Ao10, co10, eo10⟩ := Kd.S_slice HO347.out; subst eo10) | ((with_reducible refine gate_callee (f := 15) rfl ?_); refine goesL_ (some 19) rfl rfl Tryd.func15 (by kernel_rfl) rfl #[.slice Ao10 t345.length co10, .int .i64 a1] rfl hL_ ?_; (with_reducible refine (tree_Kids.calls k _ _ t345 a1 t348 t349 _ ?side1 ?side2 A4.out hG_).mono ?_); (case side1 => repeat (first | exact (Kd.S_reads' HO347.out).2.2 | (with_reducible refine Kd.C_alloc ?_ _) | (with_reducible refine Kd.C_drewN ?_ _) | (with_reducible refine Kd.C_drew ?_))); (case side2 => exact (Kd.S_reads' HO347.out).2.1); rintro e w11 ⟨v350, rfl, ho0, hb⟩; refine ⟨_, rfl, ?_⟩; have n0_ := Aside0.mk (Kd.S_below (by (with_reducible repeat (first | apply Kd.S_alloc | apply Kd.S_drewN | apply Kd.S_drew)); exact HO347.out) hb); have n1_ := Aside0.mk (Kd.R_lower ho0 hS_); have n2_ := Aside0.mk (below_step hB_ hb); clear HO347; clear HB; have HO347 := n0_; have HO351 := n1_; have HB := n2_; clear n0_ n1_ n2_; (try clear hb); (try clear hb2); (try clear hk); (try clear hi); (try clear ho0)) | ((with_reducible refine gate_callee (f := 16) rfl ?_); refine goesL_ (some 25) rfl rfl Tryd.func16 (by kernel_rfl) rfl #[.slice A0 l0.length c0, .int .i64 a1] rfl hL_ ?_; (with_reducible refine (sleuthref12_Kids.calls k _ _ l0 a1 t352 t353 _ ?side1 ?side2 A5.out).mono ?_); (case side1 => repeat (first | exact (Kd.C_below HR0.out HB.out) | (with_reducible refine Kd.C_alloc ?_ _) | (with_reducible refine Kd.C_drewN ?_ _) | (with_reducible refine Kd.C_drew ?_))); (case side2 => exact HC0.out); rintro e w12 ⟨v354, rfl, ho0, hb⟩; refine ⟨_, rfl, ?_⟩; have n0_ := Aside0.mk (Kd.S_below (by (with_reducible repeat (first | apply Kd.S_alloc | apply Kd.S_drewN | apply Kd.S_drew)); exact HO347.out) hb); have n1_ := Aside0.mk (Kd.R_elder' (hR_ HO351.out) (Kd.R_base ho0) hb); have n2_ := Aside0.mk (Kd.R_lower (Kd.R_new' ho0 (Kd.R_lt (hR_ HO351.out))) hS_); have n3_ := Aside0.mk (below_step hB_ hb); clear HO347; clear HO351; clear HB; have HO347 := n0_; have HO351 := n1_; have HO355 := n2_; have HB := n3_; clear n0_ n1_ n2_ n3_; (try clear hb); (try clear hb2); (try clear hk); (try clear hi); (try clear ho0)) | ((with_reducible refine gate_callee (f := 17) rfl ?_); refine goesL_ (some 31) rfl rfl Tryd.func17 (by kernel_rfl) rfl #[.slice Ao10 t345.length co10, .int .i64 a1] rfl hL_ ?_; (with_reducible refine (tree_Size.calls k _ _ t345 a1 t356 t357 _ ?side1 ?side2 A6.out hG_).mono ?_); (case side1 => repeat (first | exact (Kd.S_reads' HO347.out).2.2 | (with_reducible refine Kd.C_alloc ?_ _) | (with_reducible refine Kd.C_drewN ?_ _) | (with_reducible refine Kd.C_drew ?_))); (case side2 => exact (Kd.S_reads' HO347.out).2.1); rintro e w13 ⟨rfl, hb⟩; refine ⟨_, rfl, ?_⟩; have n0_ := Aside0.mk (Kd.S_below (by (with_reducible repeat (first | apply Kd.S_alloc | apply Kd.S_drewN | apply Kd.S_drew)); exact HO347.out) hb); have n1_ := Aside0.mk (Kd.R_below (hR_ HO351.out) hb); have n2_ := Aside0.mk (Kd.R_below (hR_ HO355.out) hb); have n3_ := Aside0.mk (below_step hB_ hb); clear HO347; clear HO351; clear HO355; clear HB; have HO347 := n0_; have HO351 := n1_; have HO355 := n2_; have HB := n3_; clear n0_ n1_ n2_ n3_; (try clear hb); (try clear hb2); (try clear hk); (try clear hi)) | ((with_reducible refine gate_callee (f := 18) rfl ?_); refine goesL_ (some 37) rfl rfl Tryd.func18 (by kernel_rfl) rfl #[.slice A0 l0.length c0, .int .i64 a1] rfl hL_ ?_; (with_reducible refine (sleuthref12_Size.calls k _ _ l0 a1 t358 t359 _ ?side1 ?side2 A7.out).mono ?_); (case side1 => repeat (first | exact (Kd.C_below HR0.out HB.out) | (with_reducible refine Kd.C_alloc ?_ _) | (with_reducible refine Kd.C_drewN ?_ _) | (with_reducible refine Kd.C_drew ?_))); (case side2 => exact HC0.out); rintro e w14 ⟨rfl, hb⟩; refine ⟨_, rfl, ?_⟩; have n0_ := Aside0.mk (Kd.S_below (by (with_reducible repeat (first | apply Kd.S_alloc | apply Kd.S_drewN | apply Kd.S_drew)); exact HO347.out) hb); have n1_ := Aside0.mk (Kd.R_below (hR_ HO351.out) hb); have n2_ := Aside0.mk (Kd.R_below (hR_ HO355.out) hb); have n3_ := Aside0.mk (below_step hB_ hb); clear HO347; clear HO351; clear HO355; clear HB; have HO347 := n0_; have HO351 := n1_; have HO355 := n2_; have HB := n3_; clear n0_ n1_ n2_ n3_; (try clear hb); (try clear hb2); (try clear hk); (try clear hi)))
  (try simp only [Act.put, List.setIfInBounds_toArray, List.set_cons_zero, List.set_cons_succ])
  go_cut [60] (fun v60 wc => ∃ (kq : Nat) (x60_7 : Bool), v60 = .bool x60_7 ∧ Aside0 (sleuthlaw13_Trees.j0 kq l0 t345 t348 x60_7 = some r) ∧ Aside0 (kq ≤ k) ∧ Aside0 (Kd.S k44 44 wc w.heap.size (fun _ => True) (.slice Ao10 t345.length co10) t345) ∧ Aside0 (Kd.R (Kd.int .i64) 3 wc w.heap.size (fun _ => True) v350 t348) ∧ Aside0 (Below w.heap.size w wc))
  case first =>
    have H := HC8.out
    clear HC8
    replace H := Option.bind_eq_some_iff.mp H
    obtain ⟨t360, A150, H⟩ := H
    replace H : (if t360 = true then ((sleuthlaw0_Num.f t349).bind fun t361 => (if t361 = t353 then (if t356 = t358 then ((sleuthlaw0_Num.f t357).bind fun t362 => (sleuthlaw13_Trees.j0 k l0 t345 t348 (t362 != t359))) else (sleuthlaw13_Trees.j0 k l0 t345 t348 true)) else (sleuthlaw13_Trees.j0 k l0 t345 t348 true))) else (sleuthlaw13_Trees.j0 k l0 t345 t348 true)) = some r := H
    have A15 := Aside0.mk A150
    clear A150
    by_cases c16 : t360 = true
    · subst c16
      have H1 : ((sleuthlaw0_Num.f t349).bind fun t361 => (if t361 = t353 then (if t356 = t358 then ((sleuthlaw0_Num.f t357).bind fun t362 => (sleuthlaw13_Trees.j0 k l0 t345 t348 (t362 != t359))) else (sleuthlaw13_Trees.j0 k l0 t345 t348 true)) else (sleuthlaw13_Trees.j0 k l0 t345 t348 true))) = some r := by rw [if_pos rfl] at H; exact H
      clear H
      have H := H1
      clear H1
      replace H := Option.bind_eq_some_iff.mp H
      obtain ⟨t361, A170, H⟩ := H
      replace H : (if t361 = t353 then (if t356 = t358 then ((sleuthlaw0_Num.f t357).bind fun t362 => (sleuthlaw13_Trees.j0 k l0 t345 t348 (t362 != t359))) else (sleuthlaw13_Trees.j0 k l0 t345 t348 true)) else (sleuthlaw13_Trees.j0 k l0 t345 t348 true)) = some r := H
      have A17 := Aside0.mk A170
      clear A170
      by_cases c18 : t361 = t353
      · rw [if_pos c18] at H
        have c18b0 : (t361 == t353) = true := beq_iff_eq.mpr c18
        have c18b1 : (t361 != t353) = false := bne_eq_false_iff_eq.mpr c18
        clear c18
        (first | rw [c18b0] | (simp only [i64_w, i32_w]; rw [c18b0]) | skip)
        by_cases c19 : t356 = t358
        · rw [if_pos c19] at H
          have c19b0 : (t356 == t358) = true := beq_iff_eq.mpr c19
          have c19b1 : (t356 != t358) = false := bne_eq_false_iff_eq.mpr c19
          clear c19
          replace H := Option.bind_eq_some_iff.mp H
          obtain ⟨t362, A200, H⟩ := H
          replace H : (sleuthlaw13_Trees.j0 k l0 t345 t348 (t362 != t359)) = some r := H
          have A20 := Aside0.mk A200
          clear A200
          have H' := Aside0.mk H
          clear H
          obtain ⟨Ao21, co21, eo21⟩ := Kd.R_slice HO351.out
          subst eo21
          obtain ⟨Ao22, co22, eo22⟩ := Kd.R_slice HO355.out
          subst eo22
          go_wp2_with (first | ((with_reducible refine gate_callee (f := 19) rfl ?_); refine goesL_ (some 42) rfl rfl Tryd.func19 (by kernel_rfl) rfl #[.slice Ao21 t348.length co21, .slice Ao22 t352.length co22] rfl hL_ ?_; (with_reducible refine (sleuthlaw0_SameInts.calls k _ _ t348 _ _ t352 true _ ?side1 ?side2 ?side3 ?side4 A15.out).mono ?_); (case side1 => repeat (first | exact (Kd.R_reads' HO351.out).2.2 | (with_reducible refine Kd.C_alloc ?_ _) | (with_reducible refine Kd.C_drewN ?_ _) | (with_reducible refine Kd.C_drew ?_))); (case side2 => exact (Kd.R_reads' HO351.out).2.1); (case side3 => repeat (first | exact (Kd.R_reads' HO355.out).2.2 | (with_reducible refine Kd.C_alloc ?_ _) | (with_reducible refine Kd.C_drewN ?_ _) | (with_reducible refine Kd.C_drew ?_))); (case side4 => exact (Kd.R_reads' HO355.out).2.1); rintro e w' ⟨rfl, ⟨nd, rfl⟩⟩; refine ⟨_, rfl, ?_⟩) | (go_at_call 20; (with_reducible refine (sleuthlaw0_Num.calls t349 t361 _ A17.out).mono ?_); rintro e w' ⟨rfl, ⟨nd, rfl⟩⟩) | (go_at_call 20; (with_reducible refine (sleuthlaw0_Num.calls t357 t362 _ A20.out).mono ?_); rintro e w' ⟨rfl, ⟨nd, rfl⟩⟩))
          go_meet
          case rel => exact ⟨_, ((t362 != t359)), (by first | rfl | (simp; done) | (simp [*]; done)), H', ⟨by first | omega | exact Nat.le_refl _⟩, ⟨by (with_reducible repeat (first | apply Kd.S_alloc | apply Kd.S_drewN | apply Kd.S_drew)); exact HO347.out⟩, ⟨by (with_reducible repeat (first | apply Kd.R_alloc | apply Kd.R_drewN | apply Kd.R_drew)); exact Kd.R_mono HO351.out (fun _ hk => trivial)⟩, ⟨by repeat (first | (with_reducible first | exact HB.out | apply below_alloc | apply pw_below_drewN | apply below_drew1) | exact HB.out)⟩⟩
        · rw [if_neg c19] at H
          have c19b0 : (t356 == t358) = false := beq_eq_false_iff_ne.mpr c19
          have c19b1 : (t356 != t358) = true := bne_iff_ne.mpr c19
          have H' := Aside0.mk H
          clear H
          obtain ⟨Ao23, co23, eo23⟩ := Kd.R_slice HO351.out
          subst eo23
          obtain ⟨Ao24, co24, eo24⟩ := Kd.R_slice HO355.out
          subst eo24
          go_wp2_with (first | ((with_reducible refine gate_callee (f := 19) rfl ?_); refine goesL_ (some 42) rfl rfl Tryd.func19 (by kernel_rfl) rfl #[.slice Ao23 t348.length co23, .slice Ao24 t352.length co24] rfl hL_ ?_; (with_reducible refine (sleuthlaw0_SameInts.calls k _ _ t348 _ _ t352 true _ ?side1 ?side2 ?side3 ?side4 A15.out).mono ?_); (case side1 => repeat (first | exact (Kd.R_reads' HO351.out).2.2 | (with_reducible refine Kd.C_alloc ?_ _) | (with_reducible refine Kd.C_drewN ?_ _) | (with_reducible refine Kd.C_drew ?_))); (case side2 => exact (Kd.R_reads' HO351.out).2.1); (case side3 => repeat (first | exact (Kd.R_reads' HO355.out).2.2 | (with_reducible refine Kd.C_alloc ?_ _) | (with_reducible refine Kd.C_drewN ?_ _) | (with_reducible refine Kd.C_drew ?_))); (case side4 => exact (Kd.R_reads' HO355.out).2.1); rintro e w' ⟨rfl, ⟨nd, rfl⟩⟩; refine ⟨_, rfl, ?_⟩) | (go_at_call 20; (with_reducible refine (sleuthlaw0_Num.calls t349 t361 _ A17.out).mono ?_); rintro e w' ⟨rfl, ⟨nd, rfl⟩⟩))
          go_meet
          case rel => exact ⟨_, (true), (by first | rfl | (simp; done) | (simp [*]; done)), H', ⟨by first | omega | exact Nat.le_refl _⟩, ⟨by (with_reducible repeat (first | apply Kd.S_alloc | apply Kd.S_drewN | apply Kd.S_drew)); exact HO347.out⟩, ⟨by (with_reducible repeat (first | apply Kd.R_alloc | apply Kd.R_drewN | apply Kd.R_drew)); exact Kd.R_mono HO351.out (fun _ hk => trivial)⟩, ⟨by repeat (first | (with_reducible first | exact HB.out | apply below_alloc | apply pw_below_drewN | apply below_drew1) | exact HB.out)⟩⟩
      · rw [if_neg c18] at H
        have c18b0 : (t361 == t353) = false := beq_eq_false_iff_ne.mpr c18
        have c18b1 : (t361 != t353) = true := bne_iff_ne.mpr c18
        (first | rw [c18b0] | (simp only [i64_w, i32_w]; rw [c18b0]) | skip)
        have H' := Aside0.mk H
        clear H
        obtain ⟨Ao25, co25, eo25⟩ := Kd.R_slice HO351.out
        subst eo25
        obtain ⟨Ao26, co26, eo26⟩ := Kd.R_slice HO355.out
        subst eo26
        go_wp2_with (first | ((with_reducible refine gate_callee (f := 19) rfl ?_); refine goesL_ (some 42) rfl rfl Tryd.func19 (by kernel_rfl) rfl #[.slice Ao25 t348.length co25, .slice Ao26 t352.length co26] rfl hL_ ?_; (with_reducible refine (sleuthlaw0_SameInts.calls k _ _ t348 _ _ t352 true _ ?side1 ?side2 ?side3 ?side4 A15.out).mono ?_); (case side1 => repeat (first | exact (Kd.R_reads' HO351.out).2.2 | (with_reducible refine Kd.C_alloc ?_ _) | (with_reducible refine Kd.C_drewN ?_ _) | (with_reducible refine Kd.C_drew ?_))); (case side2 => exact (Kd.R_reads' HO351.out).2.1); (case side3 => repeat (first | exact (Kd.R_reads' HO355.out).2.2 | (with_reducible refine Kd.C_alloc ?_ _) | (with_reducible refine Kd.C_drewN ?_ _) | (with_reducible refine Kd.C_drew ?_))); (case side4 => exact (Kd.R_reads' HO355.out).2.1); rintro e w' ⟨rfl, ⟨nd, rfl⟩⟩; refine ⟨_, rfl, ?_⟩) | (go_at_call 20; (with_reducible refine (sleuthlaw0_Num.calls t349 t361 _ A17.out).mono ?_); rintro e w' ⟨rfl, ⟨nd, rfl⟩⟩))
        go_meet
        case rel => exact ⟨_, (true), (by first | rfl | (simp; done) | (simp [*]; done)), H', ⟨by first | omega | exact Nat.le_refl _⟩, ⟨by (with_reducible repeat (first | apply Kd.S_alloc | apply Kd.S_drewN | apply Kd.S_drew)); exact HO347.out⟩, ⟨by (with_reducible repeat (first | apply Kd.R_alloc | apply Kd.R_drewN | apply Kd.R_drew)); exact Kd.R_mono HO351.out (fun _ hk => trivial)⟩, ⟨by repeat (first | (with_reducible first | exact HB.out | apply below_alloc | apply pw_below_drewN | apply below_drew1) | exact HB.out)⟩⟩
    · replace c16 := Bool.eq_false_iff.mpr c16
      subst c16
      have H1 : (sleuthlaw13_Trees.j0 k l0 t345 t348 true) = some r := by rw [if_neg (show ¬ (false = true) by decide)] at H; exact H
      clear H
      have H := H1
      clear H1
      have H' := Aside0.mk H
      clear H
      obtain ⟨Ao27, co27, eo27⟩ := Kd.R_slice HO351.out
      subst eo27
      obtain ⟨Ao28, co28, eo28⟩ := Kd.R_slice HO355.out
      subst eo28
      go_wp2_with (first | ((with_reducible refine gate_callee (f := 19) rfl ?_); refine goesL_ (some 42) rfl rfl Tryd.func19 (by kernel_rfl) rfl #[.slice Ao27 t348.length co27, .slice Ao28 t352.length co28] rfl hL_ ?_; (with_reducible refine (sleuthlaw0_SameInts.calls k _ _ t348 _ _ t352 false _ ?side1 ?side2 ?side3 ?side4 A15.out).mono ?_); (case side1 => repeat (first | exact (Kd.R_reads' HO351.out).2.2 | (with_reducible refine Kd.C_alloc ?_ _) | (with_reducible refine Kd.C_drewN ?_ _) | (with_reducible refine Kd.C_drew ?_))); (case side2 => exact (Kd.R_reads' HO351.out).2.1); (case side3 => repeat (first | exact (Kd.R_reads' HO355.out).2.2 | (with_reducible refine Kd.C_alloc ?_ _) | (with_reducible refine Kd.C_drewN ?_ _) | (with_reducible refine Kd.C_drew ?_))); (case side4 => exact (Kd.R_reads' HO355.out).2.1); rintro e w' ⟨rfl, ⟨nd, rfl⟩⟩; refine ⟨_, rfl, ?_⟩))
      go_meet
      case rel => exact ⟨_, (true), (by first | rfl | (simp; done) | (simp [*]; done)), H', ⟨by first | omega | exact Nat.le_refl _⟩, ⟨by (with_reducible repeat (first | apply Kd.S_alloc | apply Kd.S_drewN | apply Kd.S_drew)); exact HO347.out⟩, ⟨by (with_reducible repeat (first | apply Kd.R_alloc | apply Kd.R_drewN | apply Kd.R_drew)); exact Kd.R_mono HO351.out (fun _ hk => trivial)⟩, ⟨by repeat (first | (with_reducible first | exact HB.out | apply below_alloc | apply pw_below_drewN | apply below_drew1) | exact HB.out)⟩⟩
  case rest =>
    clear HC8
    try clear c1
    try clear p2
    try clear c3
    try clear c14
    try clear c15
    try clear c16
    try clear c17
    try clear c18
    try clear c18b0
    try clear c18b1
    try clear c19
    try clear c19b0
    try clear c19b1
    obtain ⟨kq, x60_7, rfl, HA, HJ7, HO_5, HO_6, HB⟩ := hcut
    cases kq with
    | zero => exact absurd HA.out (by simp [sleuthlaw13_Trees.j0])
    | succ kj7 =>
      have H := HA.out
      clear HA
      simp only [sleuthlaw13_Trees.j0] at H
      by_cases c29 : x60_7 = true
      · subst c29
        have H1 : (some false) = some r := by rw [if_pos rfl] at H; exact H
        clear H
        have H := H1
        clear H1
        obtain rfl := Option.some.inj H
        go_wp2
        go_ret
        exact ⟨by first | rfl | (simp [errW_none, errW_some] <;> rfl) | (simp [*, errW_none, errW_some] <;> rfl), by repeat (first | (with_reducible first | exact HB.out | apply below_alloc | apply pw_below_drewN | apply below_drew1) | exact HB.out)⟩
      · replace c29 := Bool.eq_false_iff.mpr c29
        subst c29
        have H1 : ((sleuthlaw0_SpoilInts.f kj7 t348).bind fun t363 => ((sleuthlaw0_SameNodes.f kj7 t345 l0).bind fun t364 => (if t364 = true then ((sleuthlaw13_awake.f kj7).bind fun t365 => (some t365)) else (some false)))) = some r := by rw [if_neg (show ¬ (false = true) by decide)] at H; exact H
        clear H
        have H := H1
        clear H1
        replace H := Option.bind_eq_some_iff.mp H
        obtain ⟨t363, A300, H⟩ := H
        replace H : ((sleuthlaw0_SameNodes.f kj7 t345 l0).bind fun t364 => (if t364 = true then ((sleuthlaw13_awake.f kj7).bind fun t365 => (some t365)) else (some false))) = some r := H
        have A30 := Aside0.mk A300
        clear A300
        replace H := Option.bind_eq_some_iff.mp H
        obtain ⟨t364, A310, H⟩ := H
        replace H : (if t364 = true then ((sleuthlaw13_awake.f kj7).bind fun t365 => (some t365)) else (some false)) = some r := H
        have A31 := Aside0.mk A310
        clear A310
        by_cases c32 : t364 = true
        · subst c32
          have H1 : ((sleuthlaw13_awake.f kj7).bind fun t365 => (some t365)) = some r := by rw [if_pos rfl] at H; exact H
          clear H
          have H := H1
          clear H1
          replace H := Option.bind_eq_some_iff.mp H
          obtain ⟨t365, A330, H⟩ := H
          replace H : (some t365) = some r := H
          have A33 := Aside0.mk A330
          clear A330
          obtain rfl := Option.some.inj H
          obtain ⟨Ao34, co34, eo34⟩ := Kd.R_slice HO_6.out
          subst eo34
          go_wp2_with (first | ((with_reducible refine gate_callee (f := 21) rfl ?_); refine goesL_ (some 62) rfl rfl Tryd.func21 (by kernel_rfl) rfl #[.slice Ao34 t348.length co34] rfl hL_ ?_; (with_reducible refine (sleuthlaw0_SpoilInts.calls kj7 (fun k_ => some k_ = (.slice Ao34 t348.length co34 : Value).ownBlock) (.slice Ao34 t348.length co34) t348 t363 w _ ?side1 ?side2 A30.out).mono ?_); (case side1 => repeat (first | (with_reducible first | exact HB.out | apply below_alloc | apply pw_below_drewN | apply below_drew1) | exact HB.out)); (case side2 => exact Kd.R_tight rfl HO_6.out); rintro e w35 ⟨rfl, hy0, hb, hkp⟩; refine ⟨_, rfl, ?_⟩; have n0_ := Aside0.mk (Kd.S_mono (ok' := fun k_ => True) (Kd.S_keptB ((Kd.S_apart' HO_5.out (Kd.R_typed HO_6.out) (by decide))) hkp (fun k_ hk_ hs_ => (hk_.2) hs_)) (fun k_ hk_ => trivial)); have n1_ := Aside0.mk (Kd.R_reok rfl hy0 (fun k_ e_ => HO_6.out.1 k_ e_)); have n2_ := Aside0.mk (hb); clear HO_5; clear HO_6; clear HB; have HO_5 := n0_; have HO_6 := n1_; have HB := n2_; clear n0_ n1_ n2_; (try clear hb); (try clear hkp); (try clear hy0)) | ((with_reducible refine gate_callee (f := 22) rfl ?_); refine goesL_ (some 65) rfl rfl Tryd.func22 (by kernel_rfl) rfl #[.slice Ao10 t345.length co10, .slice A0 l0.length c0] rfl hL_ ?_; (with_reducible refine (sleuthlaw0_SameNodes.calls kj7 _ _ t345 _ _ l0 true _ ?side1 ?side2 ?side3 ?side4 A31.out).mono ?_); (case side1 => repeat (first | exact (Kd.S_reads' HO_5.out).2.2 | (with_reducible refine Kd.C_alloc ?_ _) | (with_reducible refine Kd.C_drewN ?_ _) | (with_reducible refine Kd.C_drew ?_))); (case side2 => exact (Kd.S_reads' HO_5.out).2.1); (case side3 => repeat (first | exact (Kd.C_below HR0.out HB.out) | (with_reducible refine Kd.C_alloc ?_ _) | (with_reducible refine Kd.C_drewN ?_ _) | (with_reducible refine Kd.C_drew ?_))); (case side4 => exact HC0.out); rintro e w36 ⟨rfl, hb⟩; refine ⟨_, rfl, ?_⟩; have n0_ := Aside0.mk (Kd.S_below (by (with_reducible repeat (first | apply Kd.S_alloc | apply Kd.S_drewN | apply Kd.S_drew)); exact HO_5.out) hb); have n1_ := Aside0.mk (Kd.R_below (hR_ HO_6.out) hb); have n2_ := Aside0.mk (below_step hB_ hb); clear HO_5; clear HO_6; clear HB; have HO_5 := n0_; have HO_6 := n1_; have HB := n2_; clear n0_ n1_ n2_; (try clear hb); (try clear hb2); (try clear hk); (try clear hi)) | (go_at_call 23; (with_reducible refine (sleuthlaw13_awake.calls kj7  t365 _ A33.out hG_).mono ?_); rintro e w37 ⟨rfl, hb⟩; have n0_ := Aside0.mk (Kd.S_below (by (with_reducible repeat (first | apply Kd.S_alloc | apply Kd.S_drewN | apply Kd.S_drew)); exact HO_5.out) hb); have n1_ := Aside0.mk (Kd.R_below (hR_ HO_6.out) hb); have n2_ := Aside0.mk (below_step hB_ hb); clear HO_5; clear HO_6; clear HB; have HO_5 := n0_; have HO_6 := n1_; have HB := n2_; clear n0_ n1_ n2_; (try clear hb); (try clear hb2); (try clear hk); (try clear hi)))
          go_ret
          exact ⟨by first | rfl | (simp [errW_none, errW_some] <;> rfl) | (simp [*, errW_none, errW_some] <;> rfl), by repeat (first | (with_reducible first | exact HB.out | apply below_alloc | apply pw_below_drewN | apply below_drew1) | exact HB.out)⟩
        · replace c32 := Bool.eq_false_iff.mpr c32
          subst c32
          have H1 : (some false) = some r := by rw [if_neg (show ¬ (false = true) by decide)] at H; exact H
          clear H
          have H := H1
          clear H1
          obtain rfl := Option.some.inj H
          obtain ⟨Ao38, co38, eo38⟩ := Kd.R_slice HO_6.out
          subst eo38
          go_wp2_with (first | ((with_reducible refine gate_callee (f := 21) rfl ?_); refine goesL_ (some 62) rfl rfl Tryd.func21 (by kernel_rfl) rfl #[.slice Ao38 t348.length co38] rfl hL_ ?_; (with_reducible refine (sleuthlaw0_SpoilInts.calls kj7 (fun k_ => some k_ = (.slice Ao38 t348.length co38 : Value).ownBlock) (.slice Ao38 t348.length co38) t348 t363 w _ ?side1 ?side2 A30.out).mono ?_); (case side1 => repeat (first | (with_reducible first | exact HB.out | apply below_alloc | apply pw_below_drewN | apply below_drew1) | exact HB.out)); (case side2 => exact Kd.R_tight rfl HO_6.out); rintro e w39 ⟨rfl, hy0, hb, hkp⟩; refine ⟨_, rfl, ?_⟩; have n0_ := Aside0.mk (Kd.S_mono (ok' := fun k_ => True) (Kd.S_keptB ((Kd.S_apart' HO_5.out (Kd.R_typed HO_6.out) (by decide))) hkp (fun k_ hk_ hs_ => (hk_.2) hs_)) (fun k_ hk_ => trivial)); have n1_ := Aside0.mk (Kd.R_reok rfl hy0 (fun k_ e_ => HO_6.out.1 k_ e_)); have n2_ := Aside0.mk (hb); clear HO_5; clear HO_6; clear HB; have HO_5 := n0_; have HO_6 := n1_; have HB := n2_; clear n0_ n1_ n2_; (try clear hb); (try clear hkp); (try clear hy0)) | ((with_reducible refine gate_callee (f := 22) rfl ?_); refine goesL_ (some 65) rfl rfl Tryd.func22 (by kernel_rfl) rfl #[.slice Ao10 t345.length co10, .slice A0 l0.length c0] rfl hL_ ?_; (with_reducible refine (sleuthlaw0_SameNodes.calls kj7 _ _ t345 _ _ l0 false _ ?side1 ?side2 ?side3 ?side4 A31.out).mono ?_); (case side1 => repeat (first | exact (Kd.S_reads' HO_5.out).2.2 | (with_reducible refine Kd.C_alloc ?_ _) | (with_reducible refine Kd.C_drewN ?_ _) | (with_reducible refine Kd.C_drew ?_))); (case side2 => exact (Kd.S_reads' HO_5.out).2.1); (case side3 => repeat (first | exact (Kd.C_below HR0.out HB.out) | (with_reducible refine Kd.C_alloc ?_ _) | (with_reducible refine Kd.C_drewN ?_ _) | (with_reducible refine Kd.C_drew ?_))); (case side4 => exact HC0.out); rintro e w40 ⟨rfl, hb⟩; refine ⟨_, rfl, ?_⟩; have n0_ := Aside0.mk (Kd.S_below (by (with_reducible repeat (first | apply Kd.S_alloc | apply Kd.S_drewN | apply Kd.S_drew)); exact HO_5.out) hb); have n1_ := Aside0.mk (Kd.R_below (hR_ HO_6.out) hb); have n2_ := Aside0.mk (below_step hB_ hb); clear HO_5; clear HO_6; clear HB; have HO_5 := n0_; have HO_6 := n1_; have HB := n2_; clear n0_ n1_ n2_; (try clear hb); (try clear hb2); (try clear hk); (try clear hi)))
          go_ret
          exact ⟨by first | rfl | (simp [errW_none, errW_some] <;> rfl) | (simp [*, errW_none, errW_some] <;> rfl), by repeat (first | (with_reducible first | exact HB.out | apply below_alloc | apply pw_below_drewN | apply below_drew1) | exact HB.out)⟩

end Go.Proofs.YtgcdbpnflchobaaDoor.G
