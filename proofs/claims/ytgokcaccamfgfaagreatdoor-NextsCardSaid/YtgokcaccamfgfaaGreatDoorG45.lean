-- Laid by the session's own driver gp.py over the kit's printer. Not trusted: Lean checks it.
import Derived.Test.YtgokcaccamfgfaaGreatDoorG0
import Derived.Test.YtgokcaccamfgfaaGreatDoorU15
import Derived.Test.YtgokcaccamfgfaaGreatDoorU10
import Derived.Test.YtgokcaccamfgfaaGreatDoorU11
import Derived.Test.YtgokcaccamfgfaaGreatDoorU14
namespace Go.Proofs.YtgokcaccamfgfaaGreatDoor.G
open Go.RowKit Go.Proofs.YtgokcaccamfgfaaGreatDoorW.PrintWords Go.Proofs.YtgokcaccamfgfaaGreatDoorW.PrintLast Go.Proofs.YtgokcaccamfgfaaGreatDoorW.PrintMore
attribute [local go_sem] max2_int min2_int max_two min_two max_three min_three max_four min_four   -- for this text's walks alone
set_option linter.unusedVariables false
set_option linter.unusedSimpArgs false

attribute [local go_sem high] eqA34
/-! ### sleuthlaw20_Nexts: function 3 -/
def sleuthlaw20_Nexts.j0 : Nat → List Int → Bool → List (S64) → Int → List (S46) → List (S64) → Int → List (S46) → Option (Bool)
  | 0, _, _, _, _, _, _, _, _ => none
  | k + 1, x4, x54, x475000, x475001, x475002, x483000, x483001, x483002 => if x54 = true then (none) else ((sleuthlaw0_SpoilInts.f k x4).bind fun t502 => ((sleuthlaw0_SameSession.f k x483000 x483001 x483002 x475000 x475001 x475002).bind fun t503 => (if t503 = true then ((sleuthlaw20_awake.f k).bind fun t504 => (some t504)) else (none))))
def sleuthlaw20_Nexts.f (k : Nat) (l0_0 : List (S64)) (a0_1 : Int) (l0_2 : List (S46)) : Option (Bool) := (sleuthlaw0_CopySession.f k l0_0 a0_1 l0_2).bind fun bt475 => ((next_Marks.f k bt475.1 bt475.2.1 bt475.2.2).bind fun bt483 => ((sleuthref12_Marks.f k l0_0 a0_1 l0_2).bind fun bt487 => ((next_Step.f k bt475.1 bt475.2.1 bt475.2.2).bind fun bt491 => ((sleuthref12_Step.f k l0_0 a0_1 l0_2).bind fun bt495 => ((sleuthlaw0_SameInts.f k bt483.1 bt487.1).bind fun t499 => (if t499 = true then ((sleuthlaw0_Num.f bt483.2).bind fun t500 => (if t500 = bt487.2 then (if (!(bt491.1 == bt495.1) || (!(bt491.2.1 == bt495.2.1))) = true then (sleuthlaw20_Nexts.j0 k bt483.1 true l0_0 a0_1 l0_2 bt475.1 bt475.2.1 bt475.2.2) else ((sleuthlaw0_Num.f bt491.2.2).bind fun t501 => (sleuthlaw20_Nexts.j0 k bt483.1 (t501 != bt495.2.2) l0_0 a0_1 l0_2 bt475.1 bt475.2.1 bt475.2.2))) else (sleuthlaw20_Nexts.j0 k bt483.1 true l0_0 a0_1 l0_2 bt475.1 bt475.2.1 bt475.2.2))) else (sleuthlaw20_Nexts.j0 k bt483.1 true l0_0 a0_1 l0_2 bt475.1 bt475.2.1 bt475.2.2)))))))
theorem sleuthlaw20_Nexts.mono_l : ∀ k, (∀ y0 y1 y2 y3 y4 y5 y6 y7, LeO (sleuthlaw20_Nexts.j0 k y0 y1 y2 y3 y4 y5 y6 y7) (sleuthlaw20_Nexts.j0 (k + 1) y0 y1 y2 y3 y4 y5 y6 y7))
  | 0 => fun _ _ _ _ _ _ _ _ r h => by simp [sleuthlaw20_Nexts.j0] at h
  | k + 1 => by
    have ih0 := sleuthlaw20_Nexts.mono_l k
    · intro y0 y1 y2 y3 y4 y5 y6 y7
      unfold sleuthlaw20_Nexts.j0
      repeat' first
      | (with_reducible exact ih0 _ _ _ _ _ _ _ _)
      | (with_reducible exact next_Marks.mono _ _ _ _)
      | (with_reducible exact next_Step.mono _ _ _ _)
      | (with_reducible exact sleuthlaw0_CopySession.mono _ _ _ _)
      | (with_reducible exact sleuthlaw0_SameInts.mono _ _ _)
      | (with_reducible exact sleuthlaw0_SameSession.mono _ _ _ _ _ _ _)
      | (with_reducible exact sleuthlaw0_SpoilInts.mono _ _)
      | (with_reducible exact sleuthlaw20_awake.mono _)
      | (with_reducible exact sleuthref12_Marks.mono _ _ _ _)
      | (with_reducible exact sleuthref12_Step.mono _ _ _ _)
      | (with_reducible exact LeO.refl _)
      | (with_reducible exact LeO.none _)
      | (with_reducible refine LeO.ite ?_ ?_)
      | (with_reducible refine LeO.bind ?_ (fun _ => ?_))
      | exact ih0 _ _ _ _ _ _ _ _
      | exact next_Marks.mono _ _ _ _
      | exact next_Step.mono _ _ _ _
      | exact sleuthlaw0_CopySession.mono _ _ _ _
      | exact sleuthlaw0_SameInts.mono _ _ _
      | exact sleuthlaw0_SameSession.mono _ _ _ _ _ _ _
      | exact sleuthlaw0_SpoilInts.mono _ _
      | exact sleuthlaw20_awake.mono _
      | exact sleuthref12_Marks.mono _ _ _ _
      | exact sleuthref12_Step.mono _ _ _ _
      | exact LeO.none _
      | refine LeO.ite ?_ ?_
      | refine LeO.bind ?_ (fun _ => ?_)
theorem sleuthlaw20_Nexts.mono : ∀ a0 a1 a2 k, LeO (sleuthlaw20_Nexts.f k a0 a1 a2) (sleuthlaw20_Nexts.f (k + 1) a0 a1 a2) := by
  intro a0 a1 a2 k
  have ih0 := sleuthlaw20_Nexts.mono_l k
  unfold sleuthlaw20_Nexts.f
  repeat' first
      | (with_reducible exact ih0 _ _ _ _ _ _ _ _)
      | (with_reducible exact next_Marks.mono _ _ _ _)
      | (with_reducible exact next_Step.mono _ _ _ _)
      | (with_reducible exact sleuthlaw0_CopySession.mono _ _ _ _)
      | (with_reducible exact sleuthlaw0_SameInts.mono _ _ _)
      | (with_reducible exact sleuthlaw0_SameSession.mono _ _ _ _ _ _ _)
      | (with_reducible exact sleuthlaw0_SpoilInts.mono _ _)
      | (with_reducible exact sleuthlaw20_awake.mono _)
      | (with_reducible exact sleuthref12_Marks.mono _ _ _ _)
      | (with_reducible exact sleuthref12_Step.mono _ _ _ _)
      | (with_reducible exact LeO.refl _)
      | (with_reducible exact LeO.none _)
      | (with_reducible refine LeO.ite ?_ ?_)
      | (with_reducible refine LeO.bind ?_ (fun _ => ?_))
      | exact ih0 _ _ _ _ _ _ _ _
      | exact next_Marks.mono _ _ _ _
      | exact next_Step.mono _ _ _ _
      | exact sleuthlaw0_CopySession.mono _ _ _ _
      | exact sleuthlaw0_SameInts.mono _ _ _
      | exact sleuthlaw0_SameSession.mono _ _ _ _ _ _ _
      | exact sleuthlaw0_SpoilInts.mono _ _
      | exact sleuthlaw20_awake.mono _
      | exact sleuthref12_Marks.mono _ _ _ _
      | exact sleuthref12_Step.mono _ _ _ _
      | exact LeO.none _
      | refine LeO.ite ?_ ?_
      | refine LeO.bind ?_ (fun _ => ?_)
set_option maxHeartbeats 8000000 in
set_option maxRecDepth 100000 in
theorem sleuthlaw20_Nexts.calls (k : Nat) (A0_0 : Option Addr) (c0_0 : Nat) (l0_0 : List (S64)) (a0_1 : Int) (A0_2 : Option Addr) (c0_2 : Nat) (l0_2 : List (S46)) (r : Bool) (w : World) (hr0_0 : Kd.C k64 w A0_0 l0_0.length l0_0) (hc0_0 : l0_0.length ≤ c0_0) (hr0_2 : Kd.C k46 w A0_2 l0_2.length l0_2) (hc0_2 : l0_2.length ≤ c0_2) (h : sleuthlaw20_Nexts.f k l0_0 a0_1 l0_2 = some r) (hG : GOK w) :
    Calls Tryz.prog 3 #[.agg #[.slice A0_0 l0_0.length c0_0, .int .i64 a0_1, .slice A0_2 l0_2.length c0_2]] w fun e w' => e = .returned (.bool r) ∧ Below w.heap.size w w' := by
  have hu25 := Tryz.underlying25
  have hu34 := Tryz.underlying34
  have HR0_0 := Aside0.mk hr0_0
  have HC0_0 := Aside0.mk hc0_0
  clear hr0_0 hc0_0
  have HR0_2 := Aside0.mk hr0_2
  have HC0_2 := Aside0.mk hc0_2
  clear hr0_2 hc0_2
  have HB := Aside0.mk (Below.refl w.heap.size w)
  have H : ((sleuthlaw0_CopySession.f k l0_0 a0_1 l0_2).bind fun bt475 => ((next_Marks.f k bt475.1 bt475.2.1 bt475.2.2).bind fun bt483 => ((sleuthref12_Marks.f k l0_0 a0_1 l0_2).bind fun bt487 => ((next_Step.f k bt475.1 bt475.2.1 bt475.2.2).bind fun bt491 => ((sleuthref12_Step.f k l0_0 a0_1 l0_2).bind fun bt495 => ((sleuthlaw0_SameInts.f k bt483.1 bt487.1).bind fun t499 => (if t499 = true then ((sleuthlaw0_Num.f bt483.2).bind fun t500 => (if t500 = bt487.2 then (if (!(bt491.1 == bt495.1) || (!(bt491.2.1 == bt495.2.1))) = true then (sleuthlaw20_Nexts.j0 k bt483.1 true l0_0 a0_1 l0_2 bt475.1 bt475.2.1 bt475.2.2) else ((sleuthlaw0_Num.f bt491.2.2).bind fun t501 => (sleuthlaw20_Nexts.j0 k bt483.1 (t501 != bt495.2.2) l0_0 a0_1 l0_2 bt475.1 bt475.2.1 bt475.2.2))) else (sleuthlaw20_Nexts.j0 k bt483.1 true l0_0 a0_1 l0_2 bt475.1 bt475.2.1 bt475.2.2))) else (sleuthlaw20_Nexts.j0 k bt483.1 true l0_0 a0_1 l0_2 bt475.1 bt475.2.1 bt475.2.2)))))))) = some r := h
  clear h
  replace H := Option.bind_eq_some_iff.mp H
  obtain ⟨⟨t475, t478, t479⟩, A20, H⟩ := H
  replace H : ((next_Marks.f k t475 t478 t479).bind fun bt483 => ((sleuthref12_Marks.f k l0_0 a0_1 l0_2).bind fun bt487 => ((next_Step.f k t475 t478 t479).bind fun bt491 => ((sleuthref12_Step.f k l0_0 a0_1 l0_2).bind fun bt495 => ((sleuthlaw0_SameInts.f k bt483.1 bt487.1).bind fun t499 => (if t499 = true then ((sleuthlaw0_Num.f bt483.2).bind fun t500 => (if t500 = bt487.2 then (if (!(bt491.1 == bt495.1) || (!(bt491.2.1 == bt495.2.1))) = true then (sleuthlaw20_Nexts.j0 k bt483.1 true l0_0 a0_1 l0_2 t475 t478 t479) else ((sleuthlaw0_Num.f bt491.2.2).bind fun t501 => (sleuthlaw20_Nexts.j0 k bt483.1 (t501 != bt495.2.2) l0_0 a0_1 l0_2 t475 t478 t479))) else (sleuthlaw20_Nexts.j0 k bt483.1 true l0_0 a0_1 l0_2 t475 t478 t479))) else (sleuthlaw20_Nexts.j0 k bt483.1 true l0_0 a0_1 l0_2 t475 t478 t479))))))) = some r := H
  have A2 := Aside0.mk A20
  clear A20
  replace H := Option.bind_eq_some_iff.mp H
  obtain ⟨⟨t483, t486⟩, A30, H⟩ := H
  replace H : ((sleuthref12_Marks.f k l0_0 a0_1 l0_2).bind fun bt487 => ((next_Step.f k t475 t478 t479).bind fun bt491 => ((sleuthref12_Step.f k l0_0 a0_1 l0_2).bind fun bt495 => ((sleuthlaw0_SameInts.f k t483 bt487.1).bind fun t499 => (if t499 = true then ((sleuthlaw0_Num.f t486).bind fun t500 => (if t500 = bt487.2 then (if (!(bt491.1 == bt495.1) || (!(bt491.2.1 == bt495.2.1))) = true then (sleuthlaw20_Nexts.j0 k t483 true l0_0 a0_1 l0_2 t475 t478 t479) else ((sleuthlaw0_Num.f bt491.2.2).bind fun t501 => (sleuthlaw20_Nexts.j0 k t483 (t501 != bt495.2.2) l0_0 a0_1 l0_2 t475 t478 t479))) else (sleuthlaw20_Nexts.j0 k t483 true l0_0 a0_1 l0_2 t475 t478 t479))) else (sleuthlaw20_Nexts.j0 k t483 true l0_0 a0_1 l0_2 t475 t478 t479)))))) = some r := H
  have A3 := Aside0.mk A30
  clear A30
  replace H := Option.bind_eq_some_iff.mp H
  obtain ⟨⟨t487, t490⟩, A40, H⟩ := H
  replace H : ((next_Step.f k t475 t478 t479).bind fun bt491 => ((sleuthref12_Step.f k l0_0 a0_1 l0_2).bind fun bt495 => ((sleuthlaw0_SameInts.f k t483 t487).bind fun t499 => (if t499 = true then ((sleuthlaw0_Num.f t486).bind fun t500 => (if t500 = t490 then (if (!(bt491.1 == bt495.1) || (!(bt491.2.1 == bt495.2.1))) = true then (sleuthlaw20_Nexts.j0 k t483 true l0_0 a0_1 l0_2 t475 t478 t479) else ((sleuthlaw0_Num.f bt491.2.2).bind fun t501 => (sleuthlaw20_Nexts.j0 k t483 (t501 != bt495.2.2) l0_0 a0_1 l0_2 t475 t478 t479))) else (sleuthlaw20_Nexts.j0 k t483 true l0_0 a0_1 l0_2 t475 t478 t479))) else (sleuthlaw20_Nexts.j0 k t483 true l0_0 a0_1 l0_2 t475 t478 t479))))) = some r := H
  have A4 := Aside0.mk A40
  clear A40
  replace H := Option.bind_eq_some_iff.mp H
  obtain ⟨⟨t491, t492, t493⟩, A50, H⟩ := H
  replace H : ((sleuthref12_Step.f k l0_0 a0_1 l0_2).bind fun bt495 => ((sleuthlaw0_SameInts.f k t483 t487).bind fun t499 => (if t499 = true then ((sleuthlaw0_Num.f t486).bind fun t500 => (if t500 = t490 then (if (!(t491 == bt495.1) || (!(t492 == bt495.2.1))) = true then (sleuthlaw20_Nexts.j0 k t483 true l0_0 a0_1 l0_2 t475 t478 t479) else ((sleuthlaw0_Num.f t493).bind fun t501 => (sleuthlaw20_Nexts.j0 k t483 (t501 != bt495.2.2) l0_0 a0_1 l0_2 t475 t478 t479))) else (sleuthlaw20_Nexts.j0 k t483 true l0_0 a0_1 l0_2 t475 t478 t479))) else (sleuthlaw20_Nexts.j0 k t483 true l0_0 a0_1 l0_2 t475 t478 t479)))) = some r := H
  have A5 := Aside0.mk A50
  clear A50
  replace H := Option.bind_eq_some_iff.mp H
  obtain ⟨⟨t495, t496, t497⟩, A60, H⟩ := H
  replace H : ((sleuthlaw0_SameInts.f k t483 t487).bind fun t499 => (if t499 = true then ((sleuthlaw0_Num.f t486).bind fun t500 => (if t500 = t490 then (if (!(t491 == t495) || (!(t492 == t496))) = true then (sleuthlaw20_Nexts.j0 k t483 true l0_0 a0_1 l0_2 t475 t478 t479) else ((sleuthlaw0_Num.f t493).bind fun t501 => (sleuthlaw20_Nexts.j0 k t483 (t501 != t497) l0_0 a0_1 l0_2 t475 t478 t479))) else (sleuthlaw20_Nexts.j0 k t483 true l0_0 a0_1 l0_2 t475 t478 t479))) else (sleuthlaw20_Nexts.j0 k t483 true l0_0 a0_1 l0_2 t475 t478 t479))) = some r := H
  have A6 := Aside0.mk A60
  clear A60
  have HC7 := Aside0.mk H
  clear H
  go_enter Tryz.func3, Tryz.ntmps3
  go_upto_region 6 with (first | ((with_reducible refine gate_dst (N := 1) rfl ?_); refine boxE_ 1 #[.slice A0_0 l0_0.length c0_0, .int .i64 a0_1, .slice A0_2 l0_2.length c0_2] 25 ?_; intro gb474 hg w8 hbox hb; have n0_ := Aside0.mk (below_step hB_ hb); have n1_ := Aside0.mk (hbox); have n2_ := Aside0.mk ((gE_ hg : w.heap.size ≤ gb474)); have n3_ := Aside0.mk ((gE_ hg : w.heap.size ≤ gb474)); clear HB; have HB := n0_; have BK474 := n1_; have GW474 := n2_; have GE474 := n3_; clear n0_ n1_ n2_ n3_; clear hb hbox hg; obtain ⟨hcz9_0, hcz9_1, hcz9_2, hfz9_0, hfz9_1, hfz9_2⟩ := bx3_ BK474.out) | ((with_reducible refine gate_callee (f := 7) rfl ?_); refine goesL_ (some 13) rfl rfl Tryz.func7 (by kernel_rfl) rfl #[.agg #[.slice A0_0 l0_0.length c0_0, .int .i64 a0_1, .slice A0_2 l0_2.length c0_2]] rfl hL_ ?_; (with_reducible refine (sleuthlaw0_CopySession.calls k _ _ l0_0 a0_1 _ _ l0_2 t475 t478 t479 _ ?side1 ?side2 ?side3 ?side4 A2.out).mono ?_); (case side1 => exact cB_ HR0_0.out); (case side2 => exact HC0_0.out); (case side3 => exact cB_ HR0_2.out); (case side4 => exact HC0_2.out); rintro e w10 ⟨v476, v480, rfl, ho0, ho1, hb⟩; refine ⟨_, rfl, ?_⟩; have n0_ := Aside0.mk (Kd.S_lower ho0 (below_size hC_)); have n1_ := Aside0.mk (Kd.R_lower ho1 (below_size hC_)); have n2_ := Aside0.mk (bB_ BK474.out hb); have n3_ := Aside0.mk (below_step hC_ hb); clear BK474 HB; have HO477 := n0_; have HO481 := n1_; have BK474 := n2_; have HB := n3_; clear n0_ n1_ n2_ n3_; (try clear hb); (try clear hb2); (try clear hk); (try clear hi); (try clear ho0); (try clear ho1)) | ((with_reducible refine gate_dst (N := 3) rfl ?_); refine boxE_ 3 #[.slice none 0 0, .int .i64 0, .slice none 0 0] 25 ?_; intro gb482 hg w11 hbox hb; have n0_ := Aside0.mk (Kd.S_below (by (with_reducible repeat (first | apply Kd.S_alloc | apply Kd.S_drewN | apply Kd.S_drew)); exact HO477.out) hb); have n1_ := Aside0.mk (Kd.R_below (hR_ HO481.out) hb); have n2_ := Aside0.mk (bB_ BK474.out hb); have n3_ := Aside0.mk (below_step hC_ hb); have n4_ := Aside0.mk (hbox); have n5_ := Aside0.mk ((gE_ hg : w.heap.size ≤ gb482)); have n6_ := Aside0.mk ((gE_ hg : w.heap.size ≤ gb482)); have n7_ := Aside0.mk ((bL_ BK474.out hg : gb474 ≠ gb482)); have n8_ := Aside0.mk ((bG_ BK474.out hg : gb482 ≠ gb474)); clear HO477 HO481 BK474 HB; have HO477 := n0_; have HO481 := n1_; have BK474 := n2_; have HB := n3_; have BK482 := n4_; have GW482 := n5_; have GE482 := n6_; have NB474_482 := n7_; have NB482_474 := n8_; clear n0_ n1_ n2_ n3_ n4_ n5_ n6_ n7_ n8_; clear hb hbox hg; obtain ⟨Ao12, co12, eo12⟩ := Kd.S_slice HO477.out; subst eo12; have hnb13 := NB482_474.out; have hnc13 := NB474_482.out; obtain ⟨hcz14_0, hcz14_1, hcz14_2, hfz14_0, hfz14_1, hfz14_2⟩ := bx3_ BK482.out; obtain ⟨Ao15, co15, eo15⟩ := Kd.R_slice HO481.out; subst eo15) | ((with_reducible refine gate_callee (f := 8) rfl ?_); refine goesL_ (some 16) rfl rfl Tryz.func8 (by kernel_rfl) rfl #[.agg #[.slice Ao12 t475.length co12, .int .i64 t478, .slice Ao15 t479.length co15]] rfl hL_ ?_; (with_reducible refine (next_Marks.calls k _ _ t475 t478 _ _ t479 t483 t486 _ ?side1 ?side2 ?side3 ?side4 A3.out (by first | exact hG | exact GOK.below hG hC_)).mono ?_); (case side1 => refine (Kd.S_reads' (e := 64) (base := w.heap.size) (ok := fun k_ => True) (n := t475.length) (c := co12) ?_).2.2; exact (by (with_reducible repeat (first | apply Kd.S_alloc | apply Kd.S_drewN | apply Kd.S_drew)); exact (Kd.S_mono (sF_ (sF_ (sF_ (Kd.S_types HO477.out BK482.out (by decide))))) (fun _ h_ => h_.1)))); (case side2 => exact (Kd.S_reads' HO477.out).2.1); (case side3 => refine (Kd.R_reads' (e := 46) (base := w.heap.size) (ok := fun k_ => True) (n := t479.length) (c := co15) ?_).2.2; exact (by (with_reducible repeat (first | apply Kd.R_alloc | apply Kd.R_drewN | apply Kd.R_drew)); exact (Kd.R_mono (rF_ (rF_ (rF_ (Kd.R_types HO481.out BK482.out (by decide))))) (fun _ h_ => h_.1)))); (case side4 => exact (Kd.R_reads' HO481.out).2.1); rintro e w16 ⟨v484, rfl, ho0, hb⟩; refine ⟨_, rfl, ?_⟩; have n0_ := Aside0.mk (Kd.S_below (by (with_reducible repeat (first | apply Kd.S_alloc | apply Kd.S_drewN | apply Kd.S_drew)); exact (Kd.S_mono (sF_ (sF_ (sF_ (Kd.S_types HO477.out BK482.out (by decide))))) (fun _ h_ => h_.1))) hb); have n1_ := Aside0.mk (Kd.R_below (by (with_reducible repeat (first | apply Kd.R_alloc | apply Kd.R_drewN | apply Kd.R_drew)); exact (Kd.R_mono (rF_ (rF_ (rF_ (Kd.R_types HO481.out BK482.out (by decide))))) (fun _ h_ => h_.1))) hb); have n2_ := Aside0.mk (Kd.R_lower ho0 (below_size hC_)); have n3_ := Aside0.mk (blk_below (g := gb474) (o := .cells #[.slice A0_0 l0_0.length c0_0, .int .i64 a0_1, .slice A0_2 l0_2.length c0_2] 25 (0, 0)) (bF_ (bF_ (bF_ (hK_ BK474.out) NB474_482.out) NB474_482.out) NB474_482.out) hb); have n4_ := Aside0.mk (blk_below (g := gb482) (o := .cells #[.slice Ao12 t475.length co12, .int .i64 t478, .slice Ao15 t479.length co15] 25 (0, 0)) (bP_ (bP_ (bP_ (hK_ BK482.out)))) hb); have n5_ := Aside0.mk (below_step hC_ hb); clear HO477 HO481 BK474 BK482 HB; have HO477 := n0_; have HO481 := n1_; have HO485 := n2_; have BK474 := n3_; have BK482 := n4_; have HB := n5_; clear n0_ n1_ n2_ n3_ n4_ n5_; (try clear hb); (try clear hb2); (try clear hk); (try clear hi); (try clear ho0); obtain ⟨hcz17_0, hcz17_1, hcz17_2, hfz17_0, hfz17_1, hfz17_2⟩ := bx3_ BK474.out) | ((with_reducible refine gate_callee (f := 9) rfl ?_); refine goesL_ (some 21) rfl rfl Tryz.func9 (by kernel_rfl) rfl #[.agg #[.slice A0_0 l0_0.length c0_0, .int .i64 a0_1, .slice A0_2 l0_2.length c0_2]] rfl hL_ ?_; (with_reducible refine (sleuthref12_Marks.calls k _ _ l0_0 a0_1 _ _ l0_2 t487 t490 _ ?side1 ?side2 ?side3 ?side4 A4.out).mono ?_); (case side1 => exact cB_ HR0_0.out); (case side2 => exact HC0_0.out); (case side3 => exact cB_ HR0_2.out); (case side4 => exact HC0_2.out); rintro e w18 ⟨v488, rfl, ho0, hb⟩; refine ⟨_, rfl, ?_⟩; have n0_ := Aside0.mk (Kd.S_below (by (with_reducible repeat (first | apply Kd.S_alloc | apply Kd.S_drewN | apply Kd.S_drew)); exact HO477.out) hb); have n1_ := Aside0.mk (Kd.R_below (hR_ HO481.out) hb); have n2_ := Aside0.mk (Kd.R_elder' (hR_ HO485.out) (Kd.R_base ho0) hb); have n3_ := Aside0.mk (Kd.R_lower (Kd.R_new' ho0 (Kd.R_lt (hR_ HO485.out))) (below_size hC_)); have n4_ := Aside0.mk (bB_ BK474.out hb); have n5_ := Aside0.mk (bB_ BK482.out hb); have n6_ := Aside0.mk (below_step hC_ hb); clear HO477 HO481 HO485 BK474 BK482 HB; have HO477 := n0_; have HO481 := n1_; have HO485 := n2_; have HO489 := n3_; have BK474 := n4_; have BK482 := n5_; have HB := n6_; clear n0_ n1_ n2_ n3_ n4_ n5_ n6_; (try clear hb); (try clear hb2); (try clear hk); (try clear hi); (try clear ho0); obtain ⟨hcz19_0, hcz19_1, hcz19_2, hfz19_0, hfz19_1, hfz19_2⟩ := bx3_ BK482.out) | ((with_reducible refine gate_callee (f := 10) rfl ?_); refine goesL_ (some 26) rfl rfl Tryz.func10 (by kernel_rfl) rfl #[.agg #[.slice Ao12 t475.length co12, .int .i64 t478, .slice Ao15 t479.length co15]] rfl hL_ ?_; (with_reducible refine (next_Step.calls k _ _ t475 t478 _ _ t479 t491 t492 t493 _ ?side1 ?side2 ?side3 ?side4 A5.out (by first | exact hG | exact GOK.below hG hC_)).mono ?_); (case side1 => repeat (first | exact (Kd.S_reads' HO477.out).2.2 | (with_reducible refine Kd.C_alloc ?_ _) | (with_reducible refine Kd.C_drewN ?_ _) | (with_reducible refine Kd.C_drew ?_))); (case side2 => exact (Kd.S_reads' HO477.out).2.1); (case side3 => exact cC_ (Kd.R_reads' HO481.out).2.2); (case side4 => exact (Kd.R_reads' HO481.out).2.1); rintro e w20 ⟨rfl, hb⟩; refine ⟨_, rfl, ?_⟩; have n0_ := Aside0.mk (Kd.S_below (by (with_reducible repeat (first | apply Kd.S_alloc | apply Kd.S_drewN | apply Kd.S_drew)); exact HO477.out) hb); have n1_ := Aside0.mk (Kd.R_below (hR_ HO481.out) hb); have n2_ := Aside0.mk (Kd.R_below (hR_ HO485.out) hb); have n3_ := Aside0.mk (Kd.R_below (hR_ HO489.out) hb); have n4_ := Aside0.mk (bB_ BK474.out hb); have n5_ := Aside0.mk (bB_ BK482.out hb); have n6_ := Aside0.mk (below_step hC_ hb); clear HO477 HO481 HO485 HO489 BK474 BK482 HB; have HO477 := n0_; have HO481 := n1_; have HO485 := n2_; have HO489 := n3_; have BK474 := n4_; have BK482 := n5_; have HB := n6_; clear n0_ n1_ n2_ n3_ n4_ n5_ n6_; (try clear hb); (try clear hb2); (try clear hk); (try clear hi)) | ((with_reducible refine gate_dst (N := 8) rfl ?_); refine boxE_ 8 #[.int .i64 0, .int .i64 0] 34 ?_; intro gb494 hg w21 hbox hb; have n0_ := Aside0.mk (Kd.S_below (by (with_reducible repeat (first | apply Kd.S_alloc | apply Kd.S_drewN | apply Kd.S_drew)); exact HO477.out) hb); have n1_ := Aside0.mk (Kd.R_below (hR_ HO481.out) hb); have n2_ := Aside0.mk (Kd.R_below (hR_ HO485.out) hb); have n3_ := Aside0.mk (Kd.R_below (hR_ HO489.out) hb); have n4_ := Aside0.mk (bB_ BK474.out hb); have n5_ := Aside0.mk (bB_ BK482.out hb); have n6_ := Aside0.mk (below_step hC_ hb); have n7_ := Aside0.mk (hbox); have n8_ := Aside0.mk ((gE_ hg : w.heap.size ≤ gb494)); have n9_ := Aside0.mk ((gE_ hg : w.heap.size ≤ gb494)); have n10_ := Aside0.mk ((bL_ BK474.out hg : gb474 ≠ gb494)); have n11_ := Aside0.mk ((bG_ BK474.out hg : gb494 ≠ gb474)); have n12_ := Aside0.mk ((bL_ BK482.out hg : gb482 ≠ gb494)); have n13_ := Aside0.mk ((bG_ BK482.out hg : gb494 ≠ gb482)); clear HO477 HO481 HO485 HO489 BK474 BK482 HB; have HO477 := n0_; have HO481 := n1_; have HO485 := n2_; have HO489 := n3_; have BK474 := n4_; have BK482 := n5_; have HB := n6_; have BK494 := n7_; have GW494 := n8_; have GE494 := n9_; have NB474_494 := n10_; have NB494_474 := n11_; have NB482_494 := n12_; have NB494_482 := n13_; clear n0_ n1_ n2_ n3_ n4_ n5_ n6_ n7_ n8_ n9_ n10_ n11_ n12_ n13_; clear hb hbox hg; have hnb22 := NB494_474.out; have hnc22 := NB474_494.out; have hnb23 := NB494_482.out; have hnc23 := NB482_494.out; obtain ⟨hcz24_0, hcz24_1, hfz24_0, hfz24_1⟩ := bx2_ BK494.out; obtain ⟨hcz25_0, hcz25_1, hcz25_2, hfz25_0, hfz25_1, hfz25_2⟩ := bx3_ BK474.out) | ((with_reducible refine gate_callee (f := 11) rfl ?_); refine goesL_ (some 31) rfl rfl Tryz.func11 (by kernel_rfl) rfl #[.agg #[.slice A0_0 l0_0.length c0_0, .int .i64 a0_1, .slice A0_2 l0_2.length c0_2]] rfl hL_ ?_; (with_reducible refine (sleuthref12_Step.calls k _ _ l0_0 a0_1 _ _ l0_2 t495 t496 t497 _ ?side1 ?side2 ?side3 ?side4 A6.out).mono ?_); (case side1 => exact Kd.C_below HR0_0.out hC_); (case side2 => exact HC0_0.out); (case side3 => exact Kd.C_below HR0_2.out hC_); (case side4 => exact HC0_2.out); rintro e w26 ⟨rfl, hb⟩; refine ⟨_, rfl, ?_⟩; have n0_ := Aside0.mk (Kd.S_below (by (with_reducible repeat (first | apply Kd.S_alloc | apply Kd.S_drewN | apply Kd.S_drew)); exact (Kd.S_mono (sF_ (sF_ (Kd.S_types HO477.out BK494.out (by decide)))) (fun _ h_ => h_.1))) hb); have n1_ := Aside0.mk (Kd.R_below (by (with_reducible repeat (first | apply Kd.R_alloc | apply Kd.R_drewN | apply Kd.R_drew)); exact (Kd.R_mono (rF_ (rF_ (Kd.R_types HO481.out BK494.out (by decide)))) (fun _ h_ => h_.1))) hb); have n2_ := Aside0.mk (Kd.R_below (by (with_reducible repeat (first | apply Kd.R_alloc | apply Kd.R_drewN | apply Kd.R_drew)); exact (Kd.R_mono (rF_ (rF_ (Kd.R_types HO485.out BK494.out (by decide)))) (fun _ h_ => h_.1))) hb); have n3_ := Aside0.mk (Kd.R_below (by (with_reducible repeat (first | apply Kd.R_alloc | apply Kd.R_drewN | apply Kd.R_drew)); exact (Kd.R_mono (rF_ (rF_ (Kd.R_types HO489.out BK494.out (by decide)))) (fun _ h_ => h_.1))) hb); have n4_ := Aside0.mk (blk_below (g := gb474) (o := .cells #[.slice A0_0 l0_0.length c0_0, .int .i64 a0_1, .slice A0_2 l0_2.length c0_2] 25 (0, 0)) (bF_ (bF_ (hK_ BK474.out) NB474_494.out) NB474_494.out) hb); have n5_ := Aside0.mk (blk_below (g := gb482) (o := .cells #[.slice Ao12 t475.length co12, .int .i64 t478, .slice Ao15 t479.length co15] 25 (0, 0)) (bF_ (bF_ (hK_ BK482.out) NB482_494.out) NB482_494.out) hb); have n6_ := Aside0.mk (blk_below (g := gb494) (o := .cells #[.int .i64 t491, .int .i64 t492] 34 (0, 0)) (bP_ (bP_ (hK_ BK494.out))) hb); have n7_ := Aside0.mk (below_step hC_ hb); clear HO477 HO481 HO485 HO489 BK474 BK482 BK494 HB; have HO477 := n0_; have HO481 := n1_; have HO485 := n2_; have HO489 := n3_; have BK474 := n4_; have BK482 := n5_; have BK494 := n6_; have HB := n7_; clear n0_ n1_ n2_ n3_ n4_ n5_ n6_ n7_; (try clear hb); (try clear hb2); (try clear hk); (try clear hi)) | ((with_reducible refine gate_dst (N := 10) rfl ?_); refine boxE_ 10 #[.int .i64 0, .int .i64 0] 34 ?_; intro gb498 hg w27 hbox hb; have n0_ := Aside0.mk (Kd.S_below (by (with_reducible repeat (first | apply Kd.S_alloc | apply Kd.S_drewN | apply Kd.S_drew)); exact HO477.out) hb); have n1_ := Aside0.mk (Kd.R_below (hR_ HO481.out) hb); have n2_ := Aside0.mk (Kd.R_below (hR_ HO485.out) hb); have n3_ := Aside0.mk (Kd.R_below (hR_ HO489.out) hb); have n4_ := Aside0.mk (bB_ BK474.out hb); have n5_ := Aside0.mk (bB_ BK482.out hb); have n6_ := Aside0.mk (bB_ BK494.out hb); have n7_ := Aside0.mk (below_step hC_ hb); have n8_ := Aside0.mk (hbox); have n9_ := Aside0.mk ((gE_ hg : w.heap.size ≤ gb498)); have n10_ := Aside0.mk ((gE_ hg : w.heap.size ≤ gb498)); have n11_ := Aside0.mk ((bL_ BK474.out hg : gb474 ≠ gb498)); have n12_ := Aside0.mk ((bG_ BK474.out hg : gb498 ≠ gb474)); have n13_ := Aside0.mk ((bL_ BK482.out hg : gb482 ≠ gb498)); have n14_ := Aside0.mk ((bG_ BK482.out hg : gb498 ≠ gb482)); have n15_ := Aside0.mk ((bL_ BK494.out hg : gb494 ≠ gb498)); have n16_ := Aside0.mk ((bG_ BK494.out hg : gb498 ≠ gb494)); clear HO477 HO481 HO485 HO489 BK474 BK482 BK494 HB; have HO477 := n0_; have HO481 := n1_; have HO485 := n2_; have HO489 := n3_; have BK474 := n4_; have BK482 := n5_; have BK494 := n6_; have HB := n7_; have BK498 := n8_; have GW498 := n9_; have GE498 := n10_; have NB474_498 := n11_; have NB498_474 := n12_; have NB482_498 := n13_; have NB498_482 := n14_; have NB494_498 := n15_; have NB498_494 := n16_; clear n0_ n1_ n2_ n3_ n4_ n5_ n6_ n7_ n8_ n9_ n10_ n11_ n12_ n13_ n14_ n15_ n16_; clear hb hbox hg; have hnb28 := NB498_474.out; have hnc28 := NB474_498.out; have hnb29 := NB498_482.out; have hnc29 := NB482_498.out; have hnb30 := NB498_494.out; have hnc30 := NB494_498.out; obtain ⟨hcz31_0, hcz31_1, hfz31_0, hfz31_1⟩ := bx2_ BK498.out))
  (try simp only [Act.put, List.setIfInBounds_toArray, List.set_cons_zero, List.set_cons_succ])
  go_cut [54] (fun v54 wc => ∃ (kq : Nat) (x54_6 : Bool), v54 = .bool x54_6 ∧ Aside0 (sleuthlaw20_Nexts.j0 kq t483 x54_6 l0_0 a0_1 l0_2 t475 t478 t479 = some r) ∧ Aside0 (kq ≤ k) ∧ Aside0 (Kd.R (Kd.int .i64) 3 wc w.heap.size (fun _ => True) v484 t483) ∧ Aside0 (Kd.S k64 64 wc w.heap.size (fun _ => True) (.slice Ao12 t475.length co12) t475) ∧ Aside0 (Kd.R k46 46 wc w.heap.size (fun _ => True) (.slice Ao15 t479.length co15) t479) ∧ Aside0 (wc.heap[gb474]? = some (.cells #[(.slice A0_0 l0_0.length c0_0), .int .i64 a0_1, (.slice A0_2 l0_2.length c0_2)] 25 (0, 0))) ∧ Aside0 (wc.heap[gb482]? = some (.cells #[(.slice Ao12 t475.length co12), .int .i64 t478, (.slice Ao15 t479.length co15)] 25 (0, 0))) ∧ Aside0 (wc.heap[gb494]? = some (.cells #[.int .i64 t491, .int .i64 t492] 34 (0, 0))) ∧ Aside0 (wc.heap[gb498]? = some (.cells #[.int .i64 t495, .int .i64 t496] 34 (0, 0))) ∧ Aside0 (Below w.heap.size w wc))
  case first =>
    have H := HC7.out
    clear HC7
    replace H := Option.bind_eq_some_iff.mp H
    obtain ⟨t499, A320, H⟩ := H
    replace H : (if t499 = true then ((sleuthlaw0_Num.f t486).bind fun t500 => (if t500 = t490 then (if (!(t491 == t495) || (!(t492 == t496))) = true then (sleuthlaw20_Nexts.j0 k t483 true l0_0 a0_1 l0_2 t475 t478 t479) else ((sleuthlaw0_Num.f t493).bind fun t501 => (sleuthlaw20_Nexts.j0 k t483 (t501 != t497) l0_0 a0_1 l0_2 t475 t478 t479))) else (sleuthlaw20_Nexts.j0 k t483 true l0_0 a0_1 l0_2 t475 t478 t479))) else (sleuthlaw20_Nexts.j0 k t483 true l0_0 a0_1 l0_2 t475 t478 t479)) = some r := H
    have A32 := Aside0.mk A320
    clear A320
    by_cases c33 : t499 = true
    case neg =>
      replace c33 := Bool.eq_false_iff.mpr c33
      subst c33
      have H1 : (sleuthlaw20_Nexts.j0 k t483 true l0_0 a0_1 l0_2 t475 t478 t479) = some r := by rw [if_neg (show ¬ (false = true) by decide)] at H; exact H
      clear H
      have H := H1
      clear H1
      have H' := Aside0.mk H
      clear H
      obtain ⟨Ao58, co58, eo58⟩ := Kd.R_slice HO485.out
      subst eo58
      obtain ⟨Ao59, co59, eo59⟩ := Kd.R_slice HO489.out
      subst eo59
      go_wp2_with (first | ((with_reducible refine gate_callee (f := 12) rfl ?_); refine goesL_ (some 36) rfl rfl Tryz.func12 (by kernel_rfl) rfl #[.slice Ao58 t483.length co58, .slice Ao59 t487.length co59] rfl hL_ ?_; (with_reducible refine (sleuthlaw0_SameInts.calls k _ _ t483 _ _ t487 false _ ?side1 ?side2 ?side3 ?side4 A32.out).mono ?_); (case side1 => refine (Kd.R_reads' (e := 3) (base := w.heap.size) (ok := fun k_ => (True ∧ some k_ ≠ (.slice Ao59 t487.length co59 : Value).ownBlock)) (n := t483.length) (c := co58) ?_).2.2; exact (by (with_reducible repeat (first | apply Kd.R_alloc | apply Kd.R_drewN | apply Kd.R_drew)); exact (Kd.R_mono (rF_ (rF_ (Kd.R_types HO485.out BK498.out (by decide)))) (fun _ h_ => h_.1)))); (case side2 => exact (Kd.R_reads' HO485.out).2.1); (case side3 => refine (Kd.R_reads' (e := 3) (base := w.heap.size) (ok := fun k_ => (True ∧ some k_ ≠ (.slice Ao58 t483.length co58 : Value).ownBlock)) (n := t487.length) (c := co59) ?_).2.2; exact (by (with_reducible repeat (first | apply Kd.R_alloc | apply Kd.R_drewN | apply Kd.R_drew)); exact (Kd.R_mono (rF_ (rF_ (Kd.R_types HO489.out BK498.out (by decide)))) (fun _ h_ => h_.1)))); (case side4 => exact (Kd.R_reads' HO489.out).2.1); rintro e w' ⟨rfl, ⟨nd, rfl⟩⟩; refine ⟨_, rfl, ?_⟩))
      go_meet
      case rel => exact ⟨_, (true), hW_, H', ⟨by first | omega | exact Nat.le_refl _⟩, ⟨hR_ (Kd.R_mono (rF_ (rF_ (Kd.R_types HO485.out BK498.out (by decide)))) (fun _ hk => trivial))⟩, ⟨by (with_reducible repeat (first | apply Kd.S_alloc | apply Kd.S_drewN | apply Kd.S_drew)); exact Kd.S_mono (sF_ (sF_ (Kd.S_types HO477.out BK498.out (by decide)))) (fun _ hk => trivial)⟩, ⟨hR_ (Kd.R_mono (rF_ (rF_ (Kd.R_types HO481.out BK498.out (by decide)))) (fun _ hk => trivial))⟩, ⟨(bF_ (bF_ (hK_ BK474.out) NB474_498.out) NB474_498.out)⟩, ⟨(bF_ (bF_ (hK_ BK482.out) NB482_498.out) NB482_498.out)⟩, ⟨(bF_ (bF_ (hK_ BK494.out) NB494_498.out) NB494_498.out)⟩, ⟨(bP_ (bP_ (hK_ BK498.out)))⟩, ⟨hC_⟩⟩
    subst c33
    have H1 : ((sleuthlaw0_Num.f t486).bind fun t500 => (if t500 = t490 then (if (!(t491 == t495) || (!(t492 == t496))) = true then (sleuthlaw20_Nexts.j0 k t483 true l0_0 a0_1 l0_2 t475 t478 t479) else ((sleuthlaw0_Num.f t493).bind fun t501 => (sleuthlaw20_Nexts.j0 k t483 (t501 != t497) l0_0 a0_1 l0_2 t475 t478 t479))) else (sleuthlaw20_Nexts.j0 k t483 true l0_0 a0_1 l0_2 t475 t478 t479))) = some r := by rw [if_pos rfl] at H; exact H
    clear H
    have H := H1
    clear H1
    replace H := Option.bind_eq_some_iff.mp H
    obtain ⟨t500, A340, H⟩ := H
    replace H : (if t500 = t490 then (if (!(t491 == t495) || (!(t492 == t496))) = true then (sleuthlaw20_Nexts.j0 k t483 true l0_0 a0_1 l0_2 t475 t478 t479) else ((sleuthlaw0_Num.f t493).bind fun t501 => (sleuthlaw20_Nexts.j0 k t483 (t501 != t497) l0_0 a0_1 l0_2 t475 t478 t479))) else (sleuthlaw20_Nexts.j0 k t483 true l0_0 a0_1 l0_2 t475 t478 t479)) = some r := H
    have A34 := Aside0.mk A340
    clear A340
    by_cases c35 : t500 = t490
    case neg =>
      rw [if_neg c35] at H
      have c35b0 : (t500 == t490) = false := beq_eq_false_iff_ne.mpr c35
      have c35b1 : (t500 != t490) = true := bne_iff_ne.mpr c35
      (first | rw [c35b0] | (simp only [i64_w, i32_w]; rw [c35b0]) | skip)
      have H' := Aside0.mk H
      clear H
      obtain ⟨Ao56, co56, eo56⟩ := Kd.R_slice HO485.out
      subst eo56
      obtain ⟨Ao57, co57, eo57⟩ := Kd.R_slice HO489.out
      subst eo57
      go_wp2_with (first | ((with_reducible refine gate_callee (f := 12) rfl ?_); refine goesL_ (some 36) rfl rfl Tryz.func12 (by kernel_rfl) rfl #[.slice Ao56 t483.length co56, .slice Ao57 t487.length co57] rfl hL_ ?_; (with_reducible refine (sleuthlaw0_SameInts.calls k _ _ t483 _ _ t487 true _ ?side1 ?side2 ?side3 ?side4 A32.out).mono ?_); (case side1 => refine (Kd.R_reads' (e := 3) (base := w.heap.size) (ok := fun k_ => (True ∧ some k_ ≠ (.slice Ao57 t487.length co57 : Value).ownBlock)) (n := t483.length) (c := co56) ?_).2.2; exact (by (with_reducible repeat (first | apply Kd.R_alloc | apply Kd.R_drewN | apply Kd.R_drew)); exact (Kd.R_mono (rF_ (rF_ (Kd.R_types HO485.out BK498.out (by decide)))) (fun _ h_ => h_.1)))); (case side2 => exact (Kd.R_reads' HO485.out).2.1); (case side3 => refine (Kd.R_reads' (e := 3) (base := w.heap.size) (ok := fun k_ => (True ∧ some k_ ≠ (.slice Ao56 t483.length co56 : Value).ownBlock)) (n := t487.length) (c := co57) ?_).2.2; exact (by (with_reducible repeat (first | apply Kd.R_alloc | apply Kd.R_drewN | apply Kd.R_drew)); exact (Kd.R_mono (rF_ (rF_ (Kd.R_types HO489.out BK498.out (by decide)))) (fun _ h_ => h_.1)))); (case side4 => exact (Kd.R_reads' HO489.out).2.1); rintro e w' ⟨rfl, ⟨nd, rfl⟩⟩; refine ⟨_, rfl, ?_⟩) | (go_at_call 13; (with_reducible refine (sleuthlaw0_Num.calls t486 t500 _ A34.out).mono ?_); rintro e w' ⟨rfl, ⟨nd, rfl⟩⟩))
      go_meet
      case rel => exact ⟨_, (true), hW_, H', ⟨by first | omega | exact Nat.le_refl _⟩, ⟨hR_ (Kd.R_mono (rF_ (rF_ (Kd.R_types HO485.out BK498.out (by decide)))) (fun _ hk => trivial))⟩, ⟨by (with_reducible repeat (first | apply Kd.S_alloc | apply Kd.S_drewN | apply Kd.S_drew)); exact Kd.S_mono (sF_ (sF_ (Kd.S_types HO477.out BK498.out (by decide)))) (fun _ hk => trivial)⟩, ⟨hR_ (Kd.R_mono (rF_ (rF_ (Kd.R_types HO481.out BK498.out (by decide)))) (fun _ hk => trivial))⟩, ⟨(bF_ (bF_ (hK_ BK474.out) NB474_498.out) NB474_498.out)⟩, ⟨(bF_ (bF_ (hK_ BK482.out) NB482_498.out) NB482_498.out)⟩, ⟨(bF_ (bF_ (hK_ BK494.out) NB494_498.out) NB494_498.out)⟩, ⟨(bP_ (bP_ (hK_ BK498.out)))⟩, ⟨hC_⟩⟩
    rw [if_pos c35] at H
    have c35b0 : (t500 == t490) = true := beq_iff_eq.mpr c35
    have c35b1 : (t500 != t490) = false := bne_eq_false_iff_eq.mpr c35
    clear c35
    (first | rw [c35b0] | (simp only [i64_w, i32_w]; rw [c35b0]) | skip)
    by_cases c36 : (!(t491 == t495) || (!(t492 == t496))) = true
    case pos =>
      rw [if_pos c36] at H
      have c36b0 : (!(t491 == t495) || (!(t492 == t496))) = true := c36
      clear c36
      have H' := Aside0.mk H
      clear H
      obtain ⟨Ao37, co37, eo37⟩ := Kd.R_slice HO485.out
      subst eo37
      obtain ⟨Ao38, co38, eo38⟩ := Kd.R_slice HO489.out
      subst eo38
      go_wp2_with (first | ((with_reducible refine gate_callee (f := 12) rfl ?_); refine goesL_ (some 36) rfl rfl Tryz.func12 (by kernel_rfl) rfl #[.slice Ao37 t483.length co37, .slice Ao38 t487.length co38] rfl hL_ ?_; (with_reducible refine (sleuthlaw0_SameInts.calls k _ _ t483 _ _ t487 true _ ?side1 ?side2 ?side3 ?side4 A32.out).mono ?_); (case side1 => refine (Kd.R_reads' (e := 3) (base := w.heap.size) (ok := fun k_ => (True ∧ some k_ ≠ (.slice Ao38 t487.length co38 : Value).ownBlock)) (n := t483.length) (c := co37) ?_).2.2; exact (by (with_reducible repeat (first | apply Kd.R_alloc | apply Kd.R_drewN | apply Kd.R_drew)); exact (Kd.R_mono (rF_ (rF_ (Kd.R_types HO485.out BK498.out (by decide)))) (fun _ h_ => h_.1)))); (case side2 => exact (Kd.R_reads' HO485.out).2.1); (case side3 => refine (Kd.R_reads' (e := 3) (base := w.heap.size) (ok := fun k_ => (True ∧ some k_ ≠ (.slice Ao37 t483.length co37 : Value).ownBlock)) (n := t487.length) (c := co38) ?_).2.2; exact (by (with_reducible repeat (first | apply Kd.R_alloc | apply Kd.R_drewN | apply Kd.R_drew)); exact (Kd.R_mono (rF_ (rF_ (Kd.R_types HO489.out BK498.out (by decide)))) (fun _ h_ => h_.1)))); (case side4 => exact (Kd.R_reads' HO489.out).2.1); rintro e w' ⟨rfl, ⟨nd, rfl⟩⟩; refine ⟨_, rfl, ?_⟩) | (go_at_call 13; (with_reducible refine (sleuthlaw0_Num.calls t486 t500 _ A34.out).mono ?_); rintro e w' ⟨rfl, ⟨nd, rfl⟩⟩; have hnb39 := NB494_474.out; have hnc39 := NB474_494.out; have hnb40 := NB494_482.out; have hnc40 := NB482_494.out; have hnb41 := NB494_498.out; have hnc41 := NB498_494.out; obtain ⟨hcz42_0, hcz42_1, hfz42_0, hfz42_1⟩ := bx2_ BK494.out; have hnb43 := NB498_474.out; have hnc43 := NB474_498.out; have hnb44 := NB498_482.out; have hnc44 := NB482_498.out; obtain ⟨hcz45_0, hcz45_1, hfz45_0, hfz45_1⟩ := bx2_ BK498.out))
      go_meet
      case rel => exact ⟨_, (true), hW_, H', ⟨by first | omega | exact Nat.le_refl _⟩, ⟨hR_ (Kd.R_mono (rF_ (rF_ (Kd.R_types HO485.out BK498.out (by decide)))) (fun _ hk => trivial))⟩, ⟨by (with_reducible repeat (first | apply Kd.S_alloc | apply Kd.S_drewN | apply Kd.S_drew)); exact Kd.S_mono (sF_ (sF_ (Kd.S_types HO477.out BK498.out (by decide)))) (fun _ hk => trivial)⟩, ⟨hR_ (Kd.R_mono (rF_ (rF_ (Kd.R_types HO481.out BK498.out (by decide)))) (fun _ hk => trivial))⟩, ⟨(bF_ (bF_ (hK_ BK474.out) NB474_498.out) NB474_498.out)⟩, ⟨(bF_ (bF_ (hK_ BK482.out) NB482_498.out) NB482_498.out)⟩, ⟨(bF_ (bF_ (hK_ BK494.out) NB494_498.out) NB494_498.out)⟩, ⟨(bP_ (bP_ (hK_ BK498.out)))⟩, ⟨hC_⟩⟩
    rw [if_neg c36] at H
    have c36b0 : (!(t491 == t495) || (!(t492 == t496))) = false := by simpa using c36
    clear c36
    replace H := Option.bind_eq_some_iff.mp H
    obtain ⟨t501, A460, H⟩ := H
    replace H : (sleuthlaw20_Nexts.j0 k t483 (t501 != t497) l0_0 a0_1 l0_2 t475 t478 t479) = some r := H
    have A46 := Aside0.mk A460
    clear A460
    have H' := Aside0.mk H
    clear H
    obtain ⟨Ao47, co47, eo47⟩ := Kd.R_slice HO485.out
    subst eo47
    obtain ⟨Ao48, co48, eo48⟩ := Kd.R_slice HO489.out
    subst eo48
    go_wp2_with (first | ((with_reducible refine gate_callee (f := 12) rfl ?_); refine goesL_ (some 36) rfl rfl Tryz.func12 (by kernel_rfl) rfl #[.slice Ao47 t483.length co47, .slice Ao48 t487.length co48] rfl hL_ ?_; (with_reducible refine (sleuthlaw0_SameInts.calls k _ _ t483 _ _ t487 true _ ?side1 ?side2 ?side3 ?side4 A32.out).mono ?_); (case side1 => refine (Kd.R_reads' (e := 3) (base := w.heap.size) (ok := fun k_ => (True ∧ some k_ ≠ (.slice Ao48 t487.length co48 : Value).ownBlock)) (n := t483.length) (c := co47) ?_).2.2; exact (by (with_reducible repeat (first | apply Kd.R_alloc | apply Kd.R_drewN | apply Kd.R_drew)); exact (Kd.R_mono (rF_ (rF_ (Kd.R_types HO485.out BK498.out (by decide)))) (fun _ h_ => h_.1)))); (case side2 => exact (Kd.R_reads' HO485.out).2.1); (case side3 => refine (Kd.R_reads' (e := 3) (base := w.heap.size) (ok := fun k_ => (True ∧ some k_ ≠ (.slice Ao47 t483.length co47 : Value).ownBlock)) (n := t487.length) (c := co48) ?_).2.2; exact (by (with_reducible repeat (first | apply Kd.R_alloc | apply Kd.R_drewN | apply Kd.R_drew)); exact (Kd.R_mono (rF_ (rF_ (Kd.R_types HO489.out BK498.out (by decide)))) (fun _ h_ => h_.1)))); (case side4 => exact (Kd.R_reads' HO489.out).2.1); rintro e w' ⟨rfl, ⟨nd, rfl⟩⟩; refine ⟨_, rfl, ?_⟩) | (go_at_call 13; (with_reducible refine (sleuthlaw0_Num.calls t486 t500 _ A34.out).mono ?_); rintro e w' ⟨rfl, ⟨nd, rfl⟩⟩; have hnb49 := NB494_474.out; have hnc49 := NB474_494.out; have hnb50 := NB494_482.out; have hnc50 := NB482_494.out; have hnb51 := NB494_498.out; have hnc51 := NB498_494.out; obtain ⟨hcz52_0, hcz52_1, hfz52_0, hfz52_1⟩ := bx2_ BK494.out; have hnb53 := NB498_474.out; have hnc53 := NB474_498.out; have hnb54 := NB498_482.out; have hnc54 := NB482_498.out; obtain ⟨hcz55_0, hcz55_1, hfz55_0, hfz55_1⟩ := bx2_ BK498.out) | (go_at_call 13; (with_reducible refine (sleuthlaw0_Num.calls t493 t501 _ A46.out).mono ?_); rintro e w' ⟨rfl, ⟨nd, rfl⟩⟩))
    go_meet
    case rel => exact ⟨_, ((t501 != t497)), hW_, H', ⟨by first | omega | exact Nat.le_refl _⟩, ⟨hR_ (Kd.R_mono (rF_ (rF_ (Kd.R_types HO485.out BK498.out (by decide)))) (fun _ hk => trivial))⟩, ⟨by (with_reducible repeat (first | apply Kd.S_alloc | apply Kd.S_drewN | apply Kd.S_drew)); exact Kd.S_mono (sF_ (sF_ (Kd.S_types HO477.out BK498.out (by decide)))) (fun _ hk => trivial)⟩, ⟨hR_ (Kd.R_mono (rF_ (rF_ (Kd.R_types HO481.out BK498.out (by decide)))) (fun _ hk => trivial))⟩, ⟨(bF_ (bF_ (hK_ BK474.out) NB474_498.out) NB474_498.out)⟩, ⟨(bF_ (bF_ (hK_ BK482.out) NB482_498.out) NB482_498.out)⟩, ⟨(bF_ (bF_ (hK_ BK494.out) NB494_498.out) NB494_498.out)⟩, ⟨(bP_ (bP_ (hK_ BK498.out)))⟩, ⟨hC_⟩⟩
  case rest =>
    clear HC7
    try clear c1
    try clear c2
    try clear p2
    try clear c3
    try clear c4
    try clear c5
    try clear c7
    try clear c8
    try clear c9
    try clear c10
    try clear c11
    try clear c12
    try clear c13
    try clear c22
    try clear c23
    try clear c28
    try clear c29
    try clear c30
    try clear c33
    try clear c35
    try clear c35b0
    try clear c35b1
    try clear c36
    try clear c36b0
    try clear c39
    try clear c40
    try clear c41
    try clear c43
    try clear c44
    try clear c49
    try clear c50
    try clear c51
    try clear c53
    try clear c54
    try clear hcz14_0
    try clear hcz14_1
    try clear hcz14_2
    try clear hcz17_0
    try clear hcz17_1
    try clear hcz17_2
    try clear hcz19_0
    try clear hcz19_1
    try clear hcz19_2
    try clear hcz24_0
    try clear hcz24_1
    try clear hcz25_0
    try clear hcz25_1
    try clear hcz25_2
    try clear hcz31_0
    try clear hcz31_1
    try clear hcz42_0
    try clear hcz42_1
    try clear hcz45_0
    try clear hcz45_1
    try clear hcz52_0
    try clear hcz52_1
    try clear hcz55_0
    try clear hcz55_1
    try clear hcz9_0
    try clear hcz9_1
    try clear hcz9_2
    try clear hfz14_0
    try clear hfz14_1
    try clear hfz14_2
    try clear hfz17_0
    try clear hfz17_1
    try clear hfz17_2
    try clear hfz19_0
    try clear hfz19_1
    try clear hfz19_2
    try clear hfz24_0
    try clear hfz24_1
    try clear hfz25_0
    try clear hfz25_1
    try clear hfz25_2
    try clear hfz31_0
    try clear hfz31_1
    try clear hfz42_0
    try clear hfz42_1
    try clear hfz45_0
    try clear hfz45_1
    try clear hfz52_0
    try clear hfz52_1
    try clear hfz55_0
    try clear hfz55_1
    try clear hfz9_0
    try clear hfz9_1
    try clear hfz9_2
    obtain ⟨kq, x54_6, rfl, HA, HJ6, HO_4, HO_483000, HO_483002, BK474, BK482, BK494, BK498, HB⟩ := hcut
    cases kq with
    | zero => exact absurd HA.out (by simp [sleuthlaw20_Nexts.j0])
    | succ kj6 =>
      have H := HA.out
      clear HA
      simp only [sleuthlaw20_Nexts.j0] at H
      by_cases c60 : x54_6 = true
      case pos =>
        subst c60
        have H1 : (none) = some r := by rw [if_pos rfl] at H; exact H
        clear H
        have H := H1
        clear H1
        cases H
      replace c60 := Bool.eq_false_iff.mpr c60
      subst c60
      have H1 : ((sleuthlaw0_SpoilInts.f kj6 t483).bind fun t502 => ((sleuthlaw0_SameSession.f kj6 t475 t478 t479 l0_0 a0_1 l0_2).bind fun t503 => (if t503 = true then ((sleuthlaw20_awake.f kj6).bind fun t504 => (some t504)) else (none)))) = some r := by rw [if_neg (show ¬ (false = true) by decide)] at H; exact H
      clear H
      have H := H1
      clear H1
      replace H := Option.bind_eq_some_iff.mp H
      obtain ⟨t502, A610, H⟩ := H
      replace H : ((sleuthlaw0_SameSession.f kj6 t475 t478 t479 l0_0 a0_1 l0_2).bind fun t503 => (if t503 = true then ((sleuthlaw20_awake.f kj6).bind fun t504 => (some t504)) else (none))) = some r := H
      have A61 := Aside0.mk A610
      clear A610
      replace H := Option.bind_eq_some_iff.mp H
      obtain ⟨t503, A620, H⟩ := H
      replace H : (if t503 = true then ((sleuthlaw20_awake.f kj6).bind fun t504 => (some t504)) else (none)) = some r := H
      have A62 := Aside0.mk A620
      clear A620
      by_cases c63 : t503 = true
      case neg =>
        replace c63 := Bool.eq_false_iff.mpr c63
        subst c63
        have H1 : (none) = some r := by rw [if_neg (show ¬ (false = true) by decide)] at H; exact H
        clear H
        have H := H1
        clear H1
        cases H
      subst c63
      have H1 : ((sleuthlaw20_awake.f kj6).bind fun t504 => (some t504)) = some r := by rw [if_pos rfl] at H; exact H
      clear H
      have H := H1
      clear H1
      replace H := Option.bind_eq_some_iff.mp H
      obtain ⟨t504, A640, H⟩ := H
      replace H : (some t504) = some r := H
      have A64 := Aside0.mk A640
      clear A640
      obtain rfl := Option.some.inj H
      obtain ⟨Ao65, co65, eo65⟩ := Kd.R_slice HO_4.out
      subst eo65
      go_wp2_with (first | ((with_reducible refine gate_callee (f := 14) rfl ?_); refine goesL_ (some 56) rfl rfl Tryz.func14 (by kernel_rfl) rfl #[.slice Ao65 t483.length co65] rfl hL_ ?_; (with_reducible refine (sleuthlaw0_SpoilInts.calls kj6 (fun k_ => some k_ = (.slice Ao65 t483.length co65 : Value).ownBlock) (.slice Ao65 t483.length co65) t483 t502 w _ ?side1 ?side2 A61.out).mono ?_); (case side1 => repeat (first | (with_reducible first | exact HB.out | apply below_alloc | apply pw_below_drewN | apply below_drew1 | refine below_set ?_ GE474.out | refine below_set ?_ GE482.out | refine below_set ?_ GE494.out | refine below_set ?_ GE498.out) | exact HB.out)); (case side2 => exact Kd.R_tight rfl HO_4.out); rintro e w66 ⟨rfl, hy0, hb, hkp⟩; refine ⟨_, rfl, ?_⟩; have n0_ := Aside0.mk (Kd.R_reok rfl hy0 (fun k_ e_ => HO_4.out.1 k_ e_)); have n1_ := Aside0.mk (Kd.S_mono (ok' := fun k_ => True) (Kd.S_keptB ((Kd.S_apart' HO_483000.out (Kd.R_typed HO_4.out) (by decide))) hkp (fun k_ hk_ hs_ => (hk_.2) hs_)) (fun k_ hk_ => trivial)); have n2_ := Aside0.mk (Kd.R_mono (ok' := fun k_ => True) (Kd.R_keptB ((Kd.R_apart' HO_483002.out (Kd.R_typed HO_4.out) (by decide))) hkp (fun k_ hk_ hs_ => (hk_.2) hs_)) (fun k_ hk_ => trivial)); have n3_ := Aside0.mk (blk_kept (hK_ BK474.out) hkp (fun hs_ => (fun e_ => (Kd.R_ne HO_4.out BK474.out (by decide)) e_) hs_)); have n4_ := Aside0.mk (blk_kept (hK_ BK482.out) hkp (fun hs_ => (fun e_ => (Kd.R_ne HO_4.out BK482.out (by decide)) e_) hs_)); have n5_ := Aside0.mk (blk_kept (hK_ BK494.out) hkp (fun hs_ => (fun e_ => (Kd.R_ne HO_4.out BK494.out (by decide)) e_) hs_)); have n6_ := Aside0.mk (blk_kept (hK_ BK498.out) hkp (fun hs_ => (fun e_ => (Kd.R_ne HO_4.out BK498.out (by decide)) e_) hs_)); have n7_ := Aside0.mk (hb); clear HO_4 HO_483000 HO_483002 BK474 BK482 BK494 BK498 HB; have HO_4 := n0_; have HO_483000 := n1_; have HO_483002 := n2_; have BK474 := n3_; have BK482 := n4_; have BK494 := n5_; have BK498 := n6_; have HB := n7_; clear n0_ n1_ n2_ n3_ n4_ n5_ n6_ n7_; (try clear hb); (try clear hkp); (try clear hy0); have hnb67 := NB482_474.out; have hnc67 := NB474_482.out; have hnb68 := NB482_494.out; have hnc68 := NB494_482.out; have hnb69 := NB482_498.out; have hnc69 := NB498_482.out; obtain ⟨hcz70_0, hcz70_1, hcz70_2, hfz70_0, hfz70_1, hfz70_2⟩ := bx3_ BK482.out; have hnb71 := NB474_494.out; have hnc71 := NB494_474.out; have hnb72 := NB474_498.out; have hnc72 := NB498_474.out; obtain ⟨hcz73_0, hcz73_1, hcz73_2, hfz73_0, hfz73_1, hfz73_2⟩ := bx3_ BK474.out) | ((with_reducible refine gate_callee (f := 15) rfl ?_); refine goesL_ (some 59) rfl rfl Tryz.func15 (by kernel_rfl) rfl #[.agg #[.slice Ao12 t475.length co12, .int .i64 t478, .slice Ao15 t479.length co15], .agg #[.slice A0_0 l0_0.length c0_0, .int .i64 a0_1, .slice A0_2 l0_2.length c0_2]] rfl hL_ ?_; (with_reducible refine (sleuthlaw0_SameSession.calls kj6 _ _ t475 t478 _ _ t479 _ _ l0_0 a0_1 _ _ l0_2 true _ ?side1 ?side2 ?side3 ?side4 ?side5 ?side6 ?side7 ?side8 A62.out).mono ?_); (case side1 => repeat (first | exact (Kd.S_reads' HO_483000.out).2.2 | (with_reducible refine Kd.C_alloc ?_ _) | (with_reducible refine Kd.C_drewN ?_ _) | (with_reducible refine Kd.C_drew ?_))); (case side2 => exact (Kd.S_reads' HO_483000.out).2.1); (case side3 => exact cC_ (Kd.R_reads' HO_483002.out).2.2); (case side4 => exact (Kd.R_reads' HO_483002.out).2.1); (case side5 => exact cB_ HR0_0.out); (case side6 => exact HC0_0.out); (case side7 => exact cB_ HR0_2.out); (case side8 => exact HC0_2.out); rintro e w74 ⟨rfl, hb⟩; refine ⟨_, rfl, ?_⟩; have n0_ := Aside0.mk (Kd.R_below (hR_ HO_4.out) hb); have n1_ := Aside0.mk (Kd.S_below (by (with_reducible repeat (first | apply Kd.S_alloc | apply Kd.S_drewN | apply Kd.S_drew)); exact HO_483000.out) hb); have n2_ := Aside0.mk (Kd.R_below (hR_ HO_483002.out) hb); have n3_ := Aside0.mk (bB_ BK474.out hb); have n4_ := Aside0.mk (bB_ BK482.out hb); have n5_ := Aside0.mk (bB_ BK494.out hb); have n6_ := Aside0.mk (bB_ BK498.out hb); have n7_ := Aside0.mk (below_step hC_ hb); clear HO_4 HO_483000 HO_483002 BK474 BK482 BK494 BK498 HB; have HO_4 := n0_; have HO_483000 := n1_; have HO_483002 := n2_; have BK474 := n3_; have BK482 := n4_; have BK494 := n5_; have BK498 := n6_; have HB := n7_; clear n0_ n1_ n2_ n3_ n4_ n5_ n6_ n7_; (try clear hb); (try clear hb2); (try clear hk); (try clear hi)) | (go_at_call 16; (with_reducible refine (sleuthlaw20_awake.calls kj6  t504 _ A64.out (by first | exact hG | exact GOK.below hG hC_)).mono ?_); rintro e w75 ⟨rfl, hb⟩; have n0_ := Aside0.mk (Kd.R_below (hR_ HO_4.out) hb); have n1_ := Aside0.mk (Kd.S_below (by (with_reducible repeat (first | apply Kd.S_alloc | apply Kd.S_drewN | apply Kd.S_drew)); exact HO_483000.out) hb); have n2_ := Aside0.mk (Kd.R_below (hR_ HO_483002.out) hb); have n3_ := Aside0.mk (bB_ BK474.out hb); have n4_ := Aside0.mk (bB_ BK482.out hb); have n5_ := Aside0.mk (bB_ BK494.out hb); have n6_ := Aside0.mk (bB_ BK498.out hb); have n7_ := Aside0.mk (below_step hC_ hb); clear HO_4 HO_483000 HO_483002 BK474 BK482 BK494 BK498 HB; have HO_4 := n0_; have HO_483000 := n1_; have HO_483002 := n2_; have BK474 := n3_; have BK482 := n4_; have BK494 := n5_; have BK498 := n6_; have HB := n7_; clear n0_ n1_ n2_ n3_ n4_ n5_ n6_ n7_; (try clear hb); (try clear hb2); (try clear hk); (try clear hi)))
      go_ret
      exact ⟨hV_, hC_⟩
end Go.Proofs.YtgokcaccamfgfaaGreatDoor.G
