-- Laid by the session's own driver gp.py over the kit's printer. Not trusted: Lean checks it.
import Derived.Test.YtgokcaccamfgfaaGreatDoorG0
import Derived.Test.YtgokcaccamfgfaaGreatDoorU15
import Derived.Test.YtgokcaccamfgfaaGreatDoorU11
import Derived.Test.YtgokcaccamfgfaaGreatDoorU14
namespace Go.Proofs.YtgokcaccamfgfaaGreatDoor.G
open Go.RowKit Go.Proofs.YtgokcaccamfgfaaGreatDoorW.PrintWords Go.Proofs.YtgokcaccamfgfaaGreatDoorW.PrintLast Go.Proofs.YtgokcaccamfgfaaGreatDoorW.PrintMore
attribute [local go_sem] max2_int min2_int max_two min_two max_three min_three max_four min_four   -- for this text's walks alone
set_option linter.unusedVariables false
set_option linter.unusedSimpArgs false

attribute [local go_sem high] eqA34
/-! ### sleuthlaw20_NextAsks: function 4 -/
def sleuthlaw20_NextAsks.l0 : Nat → Int → List (S64) → Int → List (S46) → Int → Int → Option (Bool)
  | 0, _, _, _, _, _, _ => none
  | k + 1, x5, x506000, x506001, x506002, x511000, x511001 => if x5 < (x506002.length : Int) then (if x511000 = 0 then (if 0 ≤ x5 then (if ((rd_T46 x506002 x5).f0) = x511001 then (none) else (sleuthlaw20_NextAsks.l0 k (wrap64 (x5 + 1)) x506000 x506001 x506002 x511000 x511001)) else (none)) else (sleuthlaw20_NextAsks.l0 k (wrap64 (x5 + 1)) x506000 x506001 x506002 x511000 x511001)) else ((sleuthref12_Step.f k x506000 x506001 x506002).bind fun bt513 => (if bt513.2.2 = 0 then (if x511001 ≥ 0 then (if x511001 < (x506000.length : Int) then ((sleuthlaw20_some.f).bind fun t517 => (some ((t517.length : Int) == 5))) else (none)) else (none)) else (none)))
def sleuthlaw20_NextAsks.f (k : Nat) (l0_0 : List (S64)) (a0_1 : Int) (l0_2 : List (S46)) : Option (Bool) := (sleuthlaw20_awake.f k).bind fun t506 => (if t506 = true then ((next_Step.f k l0_0 a0_1 l0_2).bind fun bt507 => ((sleuthlaw0_Num.f bt507.2.2).bind fun t511 => (if t511 = 0 then (sleuthlaw20_NextAsks.l0 k 0 l0_0 a0_1 l0_2 bt507.1 bt507.2.1) else (some (bt507.1 == 0 && (bt507.2.1 == 0)))))) else (none))
theorem sleuthlaw20_NextAsks.mono_l : ∀ k, (∀ y0 y1 y2 y3 y4 y5, LeO (sleuthlaw20_NextAsks.l0 k y0 y1 y2 y3 y4 y5) (sleuthlaw20_NextAsks.l0 (k + 1) y0 y1 y2 y3 y4 y5))
  | 0 => fun _ _ _ _ _ _ r h => by simp [sleuthlaw20_NextAsks.l0] at h
  | k + 1 => by
    have ih0 := sleuthlaw20_NextAsks.mono_l k
    · intro y0 y1 y2 y3 y4 y5
      unfold sleuthlaw20_NextAsks.l0
      repeat' first
      | (with_reducible exact ih0 _ _ _ _ _ _)
      | (with_reducible exact next_Step.mono _ _ _ _)
      | (with_reducible exact sleuthlaw20_awake.mono _)
      | (with_reducible exact sleuthref12_Step.mono _ _ _ _)
      | (with_reducible exact LeO.refl _)
      | (with_reducible exact LeO.none _)
      | (with_reducible refine LeO.ite ?_ ?_)
      | (with_reducible refine LeO.bind ?_ (fun _ => ?_))
      | exact ih0 _ _ _ _ _ _
      | exact next_Step.mono _ _ _ _
      | exact sleuthlaw20_awake.mono _
      | exact sleuthref12_Step.mono _ _ _ _
      | exact LeO.none _
      | refine LeO.ite ?_ ?_
      | refine LeO.bind ?_ (fun _ => ?_)
theorem sleuthlaw20_NextAsks.mono : ∀ a0 a1 a2 k, LeO (sleuthlaw20_NextAsks.f k a0 a1 a2) (sleuthlaw20_NextAsks.f (k + 1) a0 a1 a2) := by
  intro a0 a1 a2 k
  have ih0 := sleuthlaw20_NextAsks.mono_l k
  unfold sleuthlaw20_NextAsks.f
  repeat' first
      | (with_reducible exact ih0 _ _ _ _ _ _)
      | (with_reducible exact next_Step.mono _ _ _ _)
      | (with_reducible exact sleuthlaw20_awake.mono _)
      | (with_reducible exact sleuthref12_Step.mono _ _ _ _)
      | (with_reducible exact LeO.refl _)
      | (with_reducible exact LeO.none _)
      | (with_reducible refine LeO.ite ?_ ?_)
      | (with_reducible refine LeO.bind ?_ (fun _ => ?_))
      | exact ih0 _ _ _ _ _ _
      | exact next_Step.mono _ _ _ _
      | exact sleuthlaw20_awake.mono _
      | exact sleuthref12_Step.mono _ _ _ _
      | exact LeO.none _
      | refine LeO.ite ?_ ?_
      | refine LeO.bind ?_ (fun _ => ?_)
set_option maxHeartbeats 8000000 in
set_option maxRecDepth 100000 in
theorem sleuthlaw20_NextAsks.calls (k : Nat) (A0_0 : Option Addr) (c0_0 : Nat) (l0_0 : List (S64)) (a0_1 : Int) (A0_2 : Option Addr) (c0_2 : Nat) (l0_2 : List (S46)) (r : Bool) (w : World) (hr0_0 : Kd.C k64 w A0_0 l0_0.length l0_0) (hc0_0 : l0_0.length ≤ c0_0) (hr0_2 : Kd.C k46 w A0_2 l0_2.length l0_2) (hc0_2 : l0_2.length ≤ c0_2) (h : sleuthlaw20_NextAsks.f k l0_0 a0_1 l0_2 = some r) (hG : GOK w) :
    Calls Tryz.prog 4 #[.agg #[.slice A0_0 l0_0.length c0_0, .int .i64 a0_1, .slice A0_2 l0_2.length c0_2]] w fun e w' => e = .returned (.bool r) ∧ Below w.heap.size w w' := by
  have hu25 := Tryz.underlying25
  have hu34 := Tryz.underlying34
  have HR0_0 := Aside0.mk hr0_0
  have HC0_0 := Aside0.mk hc0_0
  clear hr0_0 hc0_0
  have HR0_2 := Aside0.mk hr0_2
  have HC0_2 := Aside0.mk hc0_2
  clear hr0_2 hc0_2
  have HB := Aside0.mk (Below.refl w.heap.size w)
  have H : ((sleuthlaw20_awake.f k).bind fun t506 => (if t506 = true then ((next_Step.f k l0_0 a0_1 l0_2).bind fun bt507 => ((sleuthlaw0_Num.f bt507.2.2).bind fun t511 => (if t511 = 0 then (sleuthlaw20_NextAsks.l0 k 0 l0_0 a0_1 l0_2 bt507.1 bt507.2.1) else (some (bt507.1 == 0 && (bt507.2.1 == 0)))))) else (none))) = some r := h
  clear h
  replace H := Option.bind_eq_some_iff.mp H
  obtain ⟨t506, A20, H⟩ := H
  replace H : (if t506 = true then ((next_Step.f k l0_0 a0_1 l0_2).bind fun bt507 => ((sleuthlaw0_Num.f bt507.2.2).bind fun t511 => (if t511 = 0 then (sleuthlaw20_NextAsks.l0 k 0 l0_0 a0_1 l0_2 bt507.1 bt507.2.1) else (some (bt507.1 == 0 && (bt507.2.1 == 0)))))) else (none)) = some r := H
  have A2 := Aside0.mk A20
  clear A20
  by_cases c3 : t506 = true
  case neg =>
    replace c3 := Bool.eq_false_iff.mpr c3
    subst c3
    have H1 : (none) = some r := by rw [if_neg (show ¬ (false = true) by decide)] at H; exact H
    clear H
    have H := H1
    clear H1
    cases H
  subst c3
  have H1 : ((next_Step.f k l0_0 a0_1 l0_2).bind fun bt507 => ((sleuthlaw0_Num.f bt507.2.2).bind fun t511 => (if t511 = 0 then (sleuthlaw20_NextAsks.l0 k 0 l0_0 a0_1 l0_2 bt507.1 bt507.2.1) else (some (bt507.1 == 0 && (bt507.2.1 == 0)))))) = some r := by rw [if_pos rfl] at H; exact H
  clear H
  have H := H1
  clear H1
  replace H := Option.bind_eq_some_iff.mp H
  obtain ⟨⟨t507, t508, t509⟩, A40, H⟩ := H
  replace H : ((sleuthlaw0_Num.f t509).bind fun t511 => (if t511 = 0 then (sleuthlaw20_NextAsks.l0 k 0 l0_0 a0_1 l0_2 t507 t508) else (some (t507 == 0 && (t508 == 0))))) = some r := H
  have A4 := Aside0.mk A40
  clear A40
  replace H := Option.bind_eq_some_iff.mp H
  obtain ⟨t511, A50, H⟩ := H
  replace H : (if t511 = 0 then (sleuthlaw20_NextAsks.l0 k 0 l0_0 a0_1 l0_2 t507 t508) else (some (t507 == 0 && (t508 == 0)))) = some r := H
  have A5 := Aside0.mk A50
  clear A50
  by_cases c6 : t511 = 0
  case neg =>
    rw [if_neg c6] at H
    have c6b0 : (t511 == 0) = false := beq_eq_false_iff_ne.mpr c6
    have c6b1 : (t511 != 0) = true := bne_iff_ne.mpr c6
    obtain rfl := Option.some.inj H
    go_enter Tryz.func4, Tryz.ntmps4
    go_wp2_with (first | ((with_reducible refine gate_dst (N := 1) rfl ?_); (try (refine gate_guard (by rfl) ?_; dsimp only)); refine boxE_ 1 #[.slice A0_0 l0_0.length c0_0, .int .i64 a0_1, .slice A0_2 l0_2.length c0_2] 25 ?_; intro gb505 hg w67 hbox hb; have n0_ := Aside0.mk (below_step hB_ hb); have n1_ := Aside0.mk (hbox); have n2_ := Aside0.mk ((gE_ hg : w.heap.size ≤ gb505)); have n3_ := Aside0.mk ((gE_ hg : w.heap.size ≤ gb505)); clear HB; have HB := n0_; have BK505 := n1_; have GW505 := n2_; have GE505 := n3_; clear n0_ n1_ n2_ n3_; clear hb hbox hg) | (go_at_call 16; (with_reducible refine (sleuthlaw20_awake.calls k  true _ A2.out (by first | exact hG | exact GOK.below hG hC_)).mono ?_); rintro e w68 ⟨rfl, hb⟩; have n0_ := Aside0.mk (bB_ BK505.out hb); have n1_ := Aside0.mk (below_step hC_ hb); clear BK505 HB; have BK505 := n0_; have HB := n1_; clear n0_ n1_; (try clear hb); (try clear hb2); (try clear hk); (try clear hi); obtain ⟨hcz69_0, hcz69_1, hcz69_2, hfz69_0, hfz69_1, hfz69_2⟩ := bx3_ BK505.out) | (go_at_call 10; (with_reducible refine (next_Step.calls k _ _ l0_0 a0_1 _ _ l0_2 t507 t508 t509 _ ?side1 ?side2 ?side3 ?side4 A4.out (by first | exact hG | exact GOK.below hG hC_)).mono ?_); (case side1 => exact cB_ HR0_0.out); (case side2 => exact HC0_0.out); (case side3 => exact cB_ HR0_2.out); (case side4 => exact HC0_2.out); rintro e w70 ⟨rfl, hb⟩; have n0_ := Aside0.mk (bB_ BK505.out hb); have n1_ := Aside0.mk (below_step hC_ hb); clear BK505 HB; have BK505 := n0_; have HB := n1_; clear n0_ n1_; (try clear hb); (try clear hb2); (try clear hk); (try clear hi)) | ((with_reducible refine gate_dst (N := 3) rfl ?_); (try (refine gate_guard (by rfl) ?_; dsimp only)); refine boxE_ 3 #[.int .i64 0, .int .i64 0] 34 ?_; intro gb510 hg w71 hbox hb; have n0_ := Aside0.mk (bB_ BK505.out hb); have n1_ := Aside0.mk (below_step hC_ hb); have n2_ := Aside0.mk (hbox); have n3_ := Aside0.mk ((gE_ hg : w.heap.size ≤ gb510)); have n4_ := Aside0.mk ((gE_ hg : w.heap.size ≤ gb510)); have n5_ := Aside0.mk ((bL_ BK505.out hg : gb505 ≠ gb510)); have n6_ := Aside0.mk ((bG_ BK505.out hg : gb510 ≠ gb505)); clear BK505 HB; have BK505 := n0_; have HB := n1_; have BK510 := n2_; have GW510 := n3_; have GE510 := n4_; have NB505_510 := n5_; have NB510_505 := n6_; clear n0_ n1_ n2_ n3_ n4_ n5_ n6_; clear hb hbox hg; have hnb72 := NB510_505.out; have hnc72 := NB505_510.out; obtain ⟨hcz73_0, hcz73_1, hfz73_0, hfz73_1⟩ := bx2_ BK510.out) | (go_at_call 13; (with_reducible refine (sleuthlaw0_Num.calls t509 t511 _ A5.out).mono ?_); rintro e w' ⟨rfl, ⟨nd, rfl⟩⟩; (try first | exact ⟨rfl, _, World.drewN_drewN _ _ _⟩ | exact ⟨rfl, _, Eq.trans (World.drewN_drewN _ _ _) (congrArg (World.drewN _) (Nat.add_assoc _ _ _))⟩)))
    repeat (go_quiet (first | ((with_reducible refine gate_dst (N := 1) rfl ?_); (try (refine gate_guard (by rfl) ?_; dsimp only)); refine boxE_ 1 #[.slice A0_0 l0_0.length c0_0, .int .i64 a0_1, .slice A0_2 l0_2.length c0_2] 25 ?_; intro gb505 hg w67 hbox hb; have n0_ := Aside0.mk (below_step hB_ hb); have n1_ := Aside0.mk (hbox); have n2_ := Aside0.mk ((gE_ hg : w.heap.size ≤ gb505)); have n3_ := Aside0.mk ((gE_ hg : w.heap.size ≤ gb505)); clear HB; have HB := n0_; have BK505 := n1_; have GW505 := n2_; have GE505 := n3_; clear n0_ n1_ n2_ n3_; clear hb hbox hg) | (go_at_call 16; (with_reducible refine (sleuthlaw20_awake.calls k  true _ A2.out (by first | exact hG | exact GOK.below hG hC_)).mono ?_); rintro e w68 ⟨rfl, hb⟩; have n0_ := Aside0.mk (bB_ BK505.out hb); have n1_ := Aside0.mk (below_step hC_ hb); clear BK505 HB; have BK505 := n0_; have HB := n1_; clear n0_ n1_; (try clear hb); (try clear hb2); (try clear hk); (try clear hi); obtain ⟨hcz69_0, hcz69_1, hcz69_2, hfz69_0, hfz69_1, hfz69_2⟩ := bx3_ BK505.out) | (go_at_call 10; (with_reducible refine (next_Step.calls k _ _ l0_0 a0_1 _ _ l0_2 t507 t508 t509 _ ?side1 ?side2 ?side3 ?side4 A4.out (by first | exact hG | exact GOK.below hG hC_)).mono ?_); (case side1 => exact cB_ HR0_0.out); (case side2 => exact HC0_0.out); (case side3 => exact cB_ HR0_2.out); (case side4 => exact HC0_2.out); rintro e w70 ⟨rfl, hb⟩; have n0_ := Aside0.mk (bB_ BK505.out hb); have n1_ := Aside0.mk (below_step hC_ hb); clear BK505 HB; have BK505 := n0_; have HB := n1_; clear n0_ n1_; (try clear hb); (try clear hb2); (try clear hk); (try clear hi)) | ((with_reducible refine gate_dst (N := 3) rfl ?_); (try (refine gate_guard (by rfl) ?_; dsimp only)); refine boxE_ 3 #[.int .i64 0, .int .i64 0] 34 ?_; intro gb510 hg w71 hbox hb; have n0_ := Aside0.mk (bB_ BK505.out hb); have n1_ := Aside0.mk (below_step hC_ hb); have n2_ := Aside0.mk (hbox); have n3_ := Aside0.mk ((gE_ hg : w.heap.size ≤ gb510)); have n4_ := Aside0.mk ((gE_ hg : w.heap.size ≤ gb510)); have n5_ := Aside0.mk ((bL_ BK505.out hg : gb505 ≠ gb510)); have n6_ := Aside0.mk ((bG_ BK505.out hg : gb510 ≠ gb505)); clear BK505 HB; have BK505 := n0_; have HB := n1_; have BK510 := n2_; have GW510 := n3_; have GE510 := n4_; have NB505_510 := n5_; have NB510_505 := n6_; clear n0_ n1_ n2_ n3_ n4_ n5_ n6_; clear hb hbox hg; have hnb72 := NB510_505.out; have hnc72 := NB505_510.out; obtain ⟨hcz73_0, hcz73_1, hfz73_0, hfz73_1⟩ := bx2_ BK510.out) | (go_at_call 13; (with_reducible refine (sleuthlaw0_Num.calls t509 t511 _ A5.out).mono ?_); rintro e w' ⟨rfl, ⟨nd, rfl⟩⟩; (try first | exact ⟨rfl, _, World.drewN_drewN _ _ _⟩ | exact ⟨rfl, _, Eq.trans (World.drewN_drewN _ _ _) (congrArg (World.drewN _) (Nat.add_assoc _ _ _))⟩))); try go_wp2_with (first | ((with_reducible refine gate_dst (N := 1) rfl ?_); (try (refine gate_guard (by rfl) ?_; dsimp only)); refine boxE_ 1 #[.slice A0_0 l0_0.length c0_0, .int .i64 a0_1, .slice A0_2 l0_2.length c0_2] 25 ?_; intro gb505 hg w67 hbox hb; have n0_ := Aside0.mk (below_step hB_ hb); have n1_ := Aside0.mk (hbox); have n2_ := Aside0.mk ((gE_ hg : w.heap.size ≤ gb505)); have n3_ := Aside0.mk ((gE_ hg : w.heap.size ≤ gb505)); clear HB; have HB := n0_; have BK505 := n1_; have GW505 := n2_; have GE505 := n3_; clear n0_ n1_ n2_ n3_; clear hb hbox hg) | (go_at_call 16; (with_reducible refine (sleuthlaw20_awake.calls k  true _ A2.out (by first | exact hG | exact GOK.below hG hC_)).mono ?_); rintro e w68 ⟨rfl, hb⟩; have n0_ := Aside0.mk (bB_ BK505.out hb); have n1_ := Aside0.mk (below_step hC_ hb); clear BK505 HB; have BK505 := n0_; have HB := n1_; clear n0_ n1_; (try clear hb); (try clear hb2); (try clear hk); (try clear hi); obtain ⟨hcz69_0, hcz69_1, hcz69_2, hfz69_0, hfz69_1, hfz69_2⟩ := bx3_ BK505.out) | (go_at_call 10; (with_reducible refine (next_Step.calls k _ _ l0_0 a0_1 _ _ l0_2 t507 t508 t509 _ ?side1 ?side2 ?side3 ?side4 A4.out (by first | exact hG | exact GOK.below hG hC_)).mono ?_); (case side1 => exact cB_ HR0_0.out); (case side2 => exact HC0_0.out); (case side3 => exact cB_ HR0_2.out); (case side4 => exact HC0_2.out); rintro e w70 ⟨rfl, hb⟩; have n0_ := Aside0.mk (bB_ BK505.out hb); have n1_ := Aside0.mk (below_step hC_ hb); clear BK505 HB; have BK505 := n0_; have HB := n1_; clear n0_ n1_; (try clear hb); (try clear hb2); (try clear hk); (try clear hi)) | ((with_reducible refine gate_dst (N := 3) rfl ?_); (try (refine gate_guard (by rfl) ?_; dsimp only)); refine boxE_ 3 #[.int .i64 0, .int .i64 0] 34 ?_; intro gb510 hg w71 hbox hb; have n0_ := Aside0.mk (bB_ BK505.out hb); have n1_ := Aside0.mk (below_step hC_ hb); have n2_ := Aside0.mk (hbox); have n3_ := Aside0.mk ((gE_ hg : w.heap.size ≤ gb510)); have n4_ := Aside0.mk ((gE_ hg : w.heap.size ≤ gb510)); have n5_ := Aside0.mk ((bL_ BK505.out hg : gb505 ≠ gb510)); have n6_ := Aside0.mk ((bG_ BK505.out hg : gb510 ≠ gb505)); clear BK505 HB; have BK505 := n0_; have HB := n1_; have BK510 := n2_; have GW510 := n3_; have GE510 := n4_; have NB505_510 := n5_; have NB510_505 := n6_; clear n0_ n1_ n2_ n3_ n4_ n5_ n6_; clear hb hbox hg; have hnb72 := NB510_505.out; have hnc72 := NB505_510.out; obtain ⟨hcz73_0, hcz73_1, hfz73_0, hfz73_1⟩ := bx2_ BK510.out) | (go_at_call 13; (with_reducible refine (sleuthlaw0_Num.calls t509 t511 _ A5.out).mono ?_); rintro e w' ⟨rfl, ⟨nd, rfl⟩⟩; (try first | exact ⟨rfl, _, World.drewN_drewN _ _ _⟩ | exact ⟨rfl, _, Eq.trans (World.drewN_drewN _ _ _) (congrArg (World.drewN _) (Nat.add_assoc _ _ _))⟩))))
    go_ret
    exact ⟨hV_, hC_⟩
  rw [if_pos c6] at H
  have c6b0 : (t511 == 0) = true := beq_iff_eq.mpr c6
  have c6b1 : (t511 != 0) = false := bne_eq_false_iff_eq.mpr c6
  clear c6
  have H' := Aside0.mk H
  clear H
  go_enter Tryz.func4, Tryz.ntmps4
  go_wp2_with (first | ((with_reducible refine gate_dst (N := 1) rfl ?_); (try (refine gate_guard (by rfl) ?_; dsimp only)); refine boxE_ 1 #[.slice A0_0 l0_0.length c0_0, .int .i64 a0_1, .slice A0_2 l0_2.length c0_2] 25 ?_; intro gb505 hg w7 hbox hb; have n0_ := Aside0.mk (below_step hB_ hb); have n1_ := Aside0.mk (hbox); have n2_ := Aside0.mk ((gE_ hg : w.heap.size ≤ gb505)); have n3_ := Aside0.mk ((gE_ hg : w.heap.size ≤ gb505)); clear HB; have HB := n0_; have BK505 := n1_; have GW505 := n2_; have GE505 := n3_; clear n0_ n1_ n2_ n3_; clear hb hbox hg) | (go_at_call 16; (with_reducible refine (sleuthlaw20_awake.calls k  true _ A2.out (by first | exact hG | exact GOK.below hG hC_)).mono ?_); rintro e w8 ⟨rfl, hb⟩; have n0_ := Aside0.mk (bB_ BK505.out hb); have n1_ := Aside0.mk (below_step hC_ hb); clear BK505 HB; have BK505 := n0_; have HB := n1_; clear n0_ n1_; (try clear hb); (try clear hb2); (try clear hk); (try clear hi); obtain ⟨hcz9_0, hcz9_1, hcz9_2, hfz9_0, hfz9_1, hfz9_2⟩ := bx3_ BK505.out) | (go_at_call 10; (with_reducible refine (next_Step.calls k _ _ l0_0 a0_1 _ _ l0_2 t507 t508 t509 _ ?side1 ?side2 ?side3 ?side4 A4.out (by first | exact hG | exact GOK.below hG hC_)).mono ?_); (case side1 => exact cB_ HR0_0.out); (case side2 => exact HC0_0.out); (case side3 => exact cB_ HR0_2.out); (case side4 => exact HC0_2.out); rintro e w10 ⟨rfl, hb⟩; have n0_ := Aside0.mk (bB_ BK505.out hb); have n1_ := Aside0.mk (below_step hC_ hb); clear BK505 HB; have BK505 := n0_; have HB := n1_; clear n0_ n1_; (try clear hb); (try clear hb2); (try clear hk); (try clear hi)) | ((with_reducible refine gate_dst (N := 3) rfl ?_); (try (refine gate_guard (by rfl) ?_; dsimp only)); refine boxE_ 3 #[.int .i64 0, .int .i64 0] 34 ?_; intro gb510 hg w11 hbox hb; have n0_ := Aside0.mk (bB_ BK505.out hb); have n1_ := Aside0.mk (below_step hC_ hb); have n2_ := Aside0.mk (hbox); have n3_ := Aside0.mk ((gE_ hg : w.heap.size ≤ gb510)); have n4_ := Aside0.mk ((gE_ hg : w.heap.size ≤ gb510)); have n5_ := Aside0.mk ((bL_ BK505.out hg : gb505 ≠ gb510)); have n6_ := Aside0.mk ((bG_ BK505.out hg : gb510 ≠ gb505)); clear BK505 HB; have BK505 := n0_; have HB := n1_; have BK510 := n2_; have GW510 := n3_; have GE510 := n4_; have NB505_510 := n5_; have NB510_505 := n6_; clear n0_ n1_ n2_ n3_ n4_ n5_ n6_; clear hb hbox hg; have hnb12 := NB510_505.out; have hnc12 := NB505_510.out; obtain ⟨hcz13_0, hcz13_1, hfz13_0, hfz13_1⟩ := bx2_ BK510.out) | (go_at_call 13; (with_reducible refine (sleuthlaw0_Num.calls t509 t511 _ A5.out).mono ?_); rintro e w' ⟨rfl, ⟨nd, rfl⟩⟩; (try first | exact ⟨rfl, _, World.drewN_drewN _ _ _⟩ | exact ⟨rfl, _, Eq.trans (World.drewN_drewN _ _ _) (congrArg (World.drewN _) (Nat.add_assoc _ _ _))⟩)))
  repeat (go_quiet (first | ((with_reducible refine gate_dst (N := 1) rfl ?_); (try (refine gate_guard (by rfl) ?_; dsimp only)); refine boxE_ 1 #[.slice A0_0 l0_0.length c0_0, .int .i64 a0_1, .slice A0_2 l0_2.length c0_2] 25 ?_; intro gb505 hg w7 hbox hb; have n0_ := Aside0.mk (below_step hB_ hb); have n1_ := Aside0.mk (hbox); have n2_ := Aside0.mk ((gE_ hg : w.heap.size ≤ gb505)); have n3_ := Aside0.mk ((gE_ hg : w.heap.size ≤ gb505)); clear HB; have HB := n0_; have BK505 := n1_; have GW505 := n2_; have GE505 := n3_; clear n0_ n1_ n2_ n3_; clear hb hbox hg) | (go_at_call 16; (with_reducible refine (sleuthlaw20_awake.calls k  true _ A2.out (by first | exact hG | exact GOK.below hG hC_)).mono ?_); rintro e w8 ⟨rfl, hb⟩; have n0_ := Aside0.mk (bB_ BK505.out hb); have n1_ := Aside0.mk (below_step hC_ hb); clear BK505 HB; have BK505 := n0_; have HB := n1_; clear n0_ n1_; (try clear hb); (try clear hb2); (try clear hk); (try clear hi); obtain ⟨hcz9_0, hcz9_1, hcz9_2, hfz9_0, hfz9_1, hfz9_2⟩ := bx3_ BK505.out) | (go_at_call 10; (with_reducible refine (next_Step.calls k _ _ l0_0 a0_1 _ _ l0_2 t507 t508 t509 _ ?side1 ?side2 ?side3 ?side4 A4.out (by first | exact hG | exact GOK.below hG hC_)).mono ?_); (case side1 => exact cB_ HR0_0.out); (case side2 => exact HC0_0.out); (case side3 => exact cB_ HR0_2.out); (case side4 => exact HC0_2.out); rintro e w10 ⟨rfl, hb⟩; have n0_ := Aside0.mk (bB_ BK505.out hb); have n1_ := Aside0.mk (below_step hC_ hb); clear BK505 HB; have BK505 := n0_; have HB := n1_; clear n0_ n1_; (try clear hb); (try clear hb2); (try clear hk); (try clear hi)) | ((with_reducible refine gate_dst (N := 3) rfl ?_); (try (refine gate_guard (by rfl) ?_; dsimp only)); refine boxE_ 3 #[.int .i64 0, .int .i64 0] 34 ?_; intro gb510 hg w11 hbox hb; have n0_ := Aside0.mk (bB_ BK505.out hb); have n1_ := Aside0.mk (below_step hC_ hb); have n2_ := Aside0.mk (hbox); have n3_ := Aside0.mk ((gE_ hg : w.heap.size ≤ gb510)); have n4_ := Aside0.mk ((gE_ hg : w.heap.size ≤ gb510)); have n5_ := Aside0.mk ((bL_ BK505.out hg : gb505 ≠ gb510)); have n6_ := Aside0.mk ((bG_ BK505.out hg : gb510 ≠ gb505)); clear BK505 HB; have BK505 := n0_; have HB := n1_; have BK510 := n2_; have GW510 := n3_; have GE510 := n4_; have NB505_510 := n5_; have NB510_505 := n6_; clear n0_ n1_ n2_ n3_ n4_ n5_ n6_; clear hb hbox hg; have hnb12 := NB510_505.out; have hnc12 := NB505_510.out; obtain ⟨hcz13_0, hcz13_1, hfz13_0, hfz13_1⟩ := bx2_ BK510.out) | (go_at_call 13; (with_reducible refine (sleuthlaw0_Num.calls t509 t511 _ A5.out).mono ?_); rintro e w' ⟨rfl, ⟨nd, rfl⟩⟩; (try first | exact ⟨rfl, _, World.drewN_drewN _ _ _⟩ | exact ⟨rfl, _, Eq.trans (World.drewN_drewN _ _ _) (congrArg (World.drewN _) (Nat.add_assoc _ _ _))⟩))); try go_wp2_with (first | ((with_reducible refine gate_dst (N := 1) rfl ?_); (try (refine gate_guard (by rfl) ?_; dsimp only)); refine boxE_ 1 #[.slice A0_0 l0_0.length c0_0, .int .i64 a0_1, .slice A0_2 l0_2.length c0_2] 25 ?_; intro gb505 hg w7 hbox hb; have n0_ := Aside0.mk (below_step hB_ hb); have n1_ := Aside0.mk (hbox); have n2_ := Aside0.mk ((gE_ hg : w.heap.size ≤ gb505)); have n3_ := Aside0.mk ((gE_ hg : w.heap.size ≤ gb505)); clear HB; have HB := n0_; have BK505 := n1_; have GW505 := n2_; have GE505 := n3_; clear n0_ n1_ n2_ n3_; clear hb hbox hg) | (go_at_call 16; (with_reducible refine (sleuthlaw20_awake.calls k  true _ A2.out (by first | exact hG | exact GOK.below hG hC_)).mono ?_); rintro e w8 ⟨rfl, hb⟩; have n0_ := Aside0.mk (bB_ BK505.out hb); have n1_ := Aside0.mk (below_step hC_ hb); clear BK505 HB; have BK505 := n0_; have HB := n1_; clear n0_ n1_; (try clear hb); (try clear hb2); (try clear hk); (try clear hi); obtain ⟨hcz9_0, hcz9_1, hcz9_2, hfz9_0, hfz9_1, hfz9_2⟩ := bx3_ BK505.out) | (go_at_call 10; (with_reducible refine (next_Step.calls k _ _ l0_0 a0_1 _ _ l0_2 t507 t508 t509 _ ?side1 ?side2 ?side3 ?side4 A4.out (by first | exact hG | exact GOK.below hG hC_)).mono ?_); (case side1 => exact cB_ HR0_0.out); (case side2 => exact HC0_0.out); (case side3 => exact cB_ HR0_2.out); (case side4 => exact HC0_2.out); rintro e w10 ⟨rfl, hb⟩; have n0_ := Aside0.mk (bB_ BK505.out hb); have n1_ := Aside0.mk (below_step hC_ hb); clear BK505 HB; have BK505 := n0_; have HB := n1_; clear n0_ n1_; (try clear hb); (try clear hb2); (try clear hk); (try clear hi)) | ((with_reducible refine gate_dst (N := 3) rfl ?_); (try (refine gate_guard (by rfl) ?_; dsimp only)); refine boxE_ 3 #[.int .i64 0, .int .i64 0] 34 ?_; intro gb510 hg w11 hbox hb; have n0_ := Aside0.mk (bB_ BK505.out hb); have n1_ := Aside0.mk (below_step hC_ hb); have n2_ := Aside0.mk (hbox); have n3_ := Aside0.mk ((gE_ hg : w.heap.size ≤ gb510)); have n4_ := Aside0.mk ((gE_ hg : w.heap.size ≤ gb510)); have n5_ := Aside0.mk ((bL_ BK505.out hg : gb505 ≠ gb510)); have n6_ := Aside0.mk ((bG_ BK505.out hg : gb510 ≠ gb505)); clear BK505 HB; have BK505 := n0_; have HB := n1_; have BK510 := n2_; have GW510 := n3_; have GE510 := n4_; have NB505_510 := n5_; have NB510_505 := n6_; clear n0_ n1_ n2_ n3_ n4_ n5_ n6_; clear hb hbox hg; have hnb12 := NB510_505.out; have hnc12 := NB505_510.out; obtain ⟨hcz13_0, hcz13_1, hfz13_0, hfz13_1⟩ := bx2_ BK510.out) | (go_at_call 13; (with_reducible refine (sleuthlaw0_Num.calls t509 t511 _ A5.out).mono ?_); rintro e w' ⟨rfl, ⟨nd, rfl⟩⟩; (try first | exact ⟨rfl, _, World.drewN_drewN _ _ _⟩ | exact ⟨rfl, _, Eq.trans (World.drewN_drewN _ _ _) (congrArg (World.drewN _) (Nat.add_assoc _ _ _))⟩))))
  (try simp only [Act.put, List.setIfInBounds_toArray, List.set_cons_zero, List.set_cons_succ])
  go_loopg [5] k (fun kq v5 w' => ∃ (x5_1 : Int), v5 = .int .i64 x5_1 ∧ Aside0 (sleuthlaw20_NextAsks.l0 kq x5_1 l0_0 a0_1 l0_2 t507 t508 = some r) ∧ Aside0 (kq ≤ k) ∧ Aside0 (w'.heap[gb505]? = some (.cells #[(.slice A0_0 l0_0.length c0_0), .int .i64 a0_1, (.slice A0_2 l0_2.length c0_2)] 25 (0, 0))) ∧ Aside0 (w'.heap[gb510]? = some (.cells #[.int .i64 t507, .int .i64 t508] 34 (0, 0))) ∧ Aside0 (Below w.heap.size w w'))
  case atStart => exact ⟨(0), hW_, H', ⟨Nat.le_refl _⟩, ⟨(bF_ (bF_ (hK_ BK505.out) NB505_510.out) NB505_510.out)⟩, ⟨(bP_ (bP_ (hK_ BK510.out)))⟩, ⟨hC_⟩⟩
  case round =>
    clear H'
    try clear c1
    try clear p2
    try clear c3
    try clear c4
    try clear c6
    try clear c6b0
    try clear c6b1
    try clear c12
    try clear hcz13_0
    try clear hcz13_1
    try clear hcz9_0
    try clear hcz9_1
    try clear hcz9_2
    try clear hfz13_0
    try clear hfz13_1
    try clear hfz9_0
    try clear hfz9_1
    try clear hfz9_2
    obtain ⟨x5_1, rfl, HA, HK1, BK505, BK510, HB⟩ := hrel
    cases gk with
    | zero => exact absurd HA.out (by simp [sleuthlaw20_NextAsks.l0])
    | succ k1 =>
      have H := HA.out
      clear HA
      simp only [sleuthlaw20_NextAsks.l0] at H
      by_cases c14 : x5_1 < (l0_2.length : Int)
      case pos =>
        rw [if_pos c14] at H
        have c14b0 : decide (x5_1 < (l0_2.length : Int)) = true := decide_eq_true c14
        clear c14
        by_cases c15 : t507 = 0
        case neg =>
          rw [if_neg c15] at H
          have c15b0 : (t507 == 0) = false := beq_eq_false_iff_ne.mpr c15
          have c15b1 : (t507 != 0) = true := bne_iff_ne.mpr c15
          have H' := Aside0.mk H
          clear H
          have hnb24 := NB505_510.out
          have hnc24 := NB510_505.out
          obtain ⟨hcz25_0, hcz25_1, hcz25_2, hfz25_0, hfz25_1, hfz25_2⟩ := bx3_ BK505.out
          obtain ⟨hcz26_0, hcz26_1, hfz26_0, hfz26_1⟩ := bx2_ BK510.out
          go_wp2
          repeat (go_quiet (fail); try go_wp2)
          go_roundg k1
          case measure => have := HK1.out; omega
          case rel => exact ⟨(wrap64 (x5_1 + 1)), hW_, H', ⟨by have := HK1.out; omega⟩, ⟨(hK_ BK505.out)⟩, ⟨(hK_ BK510.out)⟩, ⟨hC_⟩⟩
        rw [if_pos c15] at H
        have c15b0 : (t507 == 0) = true := beq_iff_eq.mpr c15
        have c15b1 : (t507 != 0) = false := bne_eq_false_iff_eq.mpr c15
        clear c15
        replace H := ifI_ H; obtain ⟨c16, H⟩ := H
        have c16b0 : decide (0 ≤ x5_1) = true := decide_eq_true c16
        clear c16
        by_cases c17 : ((rd_T46 l0_2 x5_1).f0) = t508
        case pos =>
          rw [if_pos c17] at H
          have c17b0 : (((rd_T46 l0_2 x5_1).f0) == t508) = true := beq_iff_eq.mpr c17
          have c17b1 : (((rd_T46 l0_2 x5_1).f0) != t508) = false := bne_eq_false_iff_eq.mpr c17
          clear c17
          cases H
        rw [if_neg c17] at H
        have c17b0 : (((rd_T46 l0_2 x5_1).f0) == t508) = false := beq_eq_false_iff_ne.mpr c17
        have c17b1 : (((rd_T46 l0_2 x5_1).f0) != t508) = true := bne_iff_ne.mpr c17
        have H' := Aside0.mk H
        clear H
        have hnb21 := NB505_510.out
        have hnc21 := NB510_505.out
        obtain ⟨hcz22_0, hcz22_1, hcz22_2, hfz22_0, hfz22_1, hfz22_2⟩ := bx3_ BK505.out
        obtain ⟨hcz23_0, hcz23_1, hfz23_0, hfz23_1⟩ := bx2_ BK510.out
        have p512 : 0 ≤ (x5_1 : Int) := of_decide_eq_true hA_
        have q512 : x5_1 < (l0_2.length : Int) := of_decide_eq_true hA_
        obtain ⟨ad512, e512, hx512_0, hx512_1⟩ := at_T46 HR0_2.out x5_1 p512 q512
        cases e512
        replace hx512_0 := cl_ HB.out hx512_0
        replace hx512_1 := cl_ HB.out hx512_1
        replace p512 := eq_true p512
        replace q512 := eq_true q512
        go_wp2
        repeat (go_quiet (fail); try go_wp2)
        go_roundg k1
        case measure => have := HK1.out; omega
        case rel => exact ⟨(wrap64 (x5_1 + 1)), hW_, H', ⟨by have := HK1.out; omega⟩, ⟨(hK_ BK505.out)⟩, ⟨(hK_ BK510.out)⟩, ⟨hC_⟩⟩
      rw [if_neg c14] at H
      have c14b0 : decide (x5_1 < (l0_2.length : Int)) = false := decide_eq_false c14
      clear c14
      replace H := Option.bind_eq_some_iff.mp H
      obtain ⟨⟨t513, t514, t515⟩, A270, H⟩ := H
      replace H : (if t515 = 0 then (if t508 ≥ 0 then (if t508 < (l0_0.length : Int) then ((sleuthlaw20_some.f).bind fun t517 => (some ((t517.length : Int) == 5))) else (none)) else (none)) else (none)) = some r := H
      have A27 := Aside0.mk A270
      clear A270
      by_cases c28 : t515 = 0
      case neg =>
        rw [if_neg c28] at H
        have c28b0 : (t515 == 0) = false := beq_eq_false_iff_ne.mpr c28
        have c28b1 : (t515 != 0) = true := bne_iff_ne.mpr c28
        cases H
      rw [if_pos c28] at H
      have c28b0 : (t515 == 0) = true := beq_iff_eq.mpr c28
      have c28b1 : (t515 != 0) = false := bne_eq_false_iff_eq.mpr c28
      clear c28
      by_cases c29 : t508 ≥ 0
      case neg =>
        rw [if_neg c29] at H
        have c29b0 : decide (0 ≤ t508) = false := decide_eq_false c29
        clear c29
        cases H
      rw [if_pos c29] at H
      have c29b0 : decide (0 ≤ t508) = true := decide_eq_true c29
      clear c29
      by_cases c30 : t508 < (l0_0.length : Int)
      case neg =>
        rw [if_neg c30] at H
        have c30b0 : decide (t508 < (l0_0.length : Int)) = false := decide_eq_false c30
        clear c30
        cases H
      rw [if_pos c30] at H
      have c30b0 : decide (t508 < (l0_0.length : Int)) = true := decide_eq_true c30
      clear c30
      replace H := Option.bind_eq_some_iff.mp H
      obtain ⟨t517, A310, H⟩ := H
      replace H : (some ((t517.length : Int) == 5)) = some r := H
      have A31 := Aside0.mk A310
      clear A310
      obtain rfl := Option.some.inj H
      have hnb32 := NB505_510.out
      have hnc32 := NB510_505.out
      obtain ⟨hcz33_0, hcz33_1, hcz33_2, hfz33_0, hfz33_1, hfz33_2⟩ := bx3_ BK505.out
      go_wp2_with (first | (go_at_call 11; (with_reducible refine (sleuthref12_Step.calls k1 _ _ l0_0 a0_1 _ _ l0_2 t513 t514 t515 _ ?side1 ?side2 ?side3 ?side4 A27.out).mono ?_); (case side1 => exact cB_ HR0_0.out); (case side2 => exact HC0_0.out); (case side3 => exact cB_ HR0_2.out); (case side4 => exact HC0_2.out); rintro e w34 ⟨rfl, hb⟩; have n0_ := Aside0.mk (bB_ BK505.out hb); have n1_ := Aside0.mk (bB_ BK510.out hb); have n2_ := Aside0.mk (below_step hC_ hb); clear BK505 BK510 HB; have BK505 := n0_; have BK510 := n1_; have HB := n2_; clear n0_ n1_ n2_; (try clear hb); (try clear hb2); (try clear hk); (try clear hi)) | ((with_reducible refine gate_dst (N := 6) rfl ?_); (try (refine gate_guard (by rfl) ?_; dsimp only)); refine boxE_ 6 #[.int .i64 0, .int .i64 0] 34 ?_; intro gb516 hg w35 hbox hb; have n0_ := Aside0.mk (bB_ BK505.out hb); have n1_ := Aside0.mk (bB_ BK510.out hb); have n2_ := Aside0.mk (below_step hC_ hb); have n3_ := Aside0.mk (hbox); have n4_ := Aside0.mk ((gE_ hg : w.heap.size ≤ gb516)); have n5_ := Aside0.mk ((gE_ hg : w.heap.size ≤ gb516)); have n6_ := Aside0.mk ((bL_ BK505.out hg : gb505 ≠ gb516)); have n7_ := Aside0.mk ((bG_ BK505.out hg : gb516 ≠ gb505)); have n8_ := Aside0.mk ((bL_ BK510.out hg : gb510 ≠ gb516)); have n9_ := Aside0.mk ((bG_ BK510.out hg : gb516 ≠ gb510)); clear BK505 BK510 HB; have BK505 := n0_; have BK510 := n1_; have HB := n2_; have BK516 := n3_; have GW516 := n4_; have GE516 := n5_; have NB505_516 := n6_; have NB516_505 := n7_; have NB510_516 := n8_; have NB516_510 := n9_; clear n0_ n1_ n2_ n3_ n4_ n5_ n6_ n7_ n8_ n9_; clear hb hbox hg; have hnb36 := NB516_505.out; have hnc36 := NB505_516.out; have hnb37 := NB516_510.out; have hnc37 := NB510_516.out; obtain ⟨hcz38_0, hcz38_1, hfz38_0, hfz38_1⟩ := bx2_ BK516.out; obtain ⟨hcz39_0, hcz39_1, hfz39_0, hfz39_1⟩ := bx2_ BK510.out; obtain ⟨hcz40_0, hcz40_1, hcz40_2, hfz40_0, hfz40_1, hfz40_2⟩ := bx3_ BK505.out) | (go_at_call 17; (with_reducible refine (sleuthlaw20_some.calls  t517 _ A31.out).mono ?_); rintro e w41 ⟨v518, rfl, ho0, hb⟩; have n0_ := Aside0.mk (Kd.N_lower (Kd.N_mono (ok' := fun k_ => k_ ≠ gb505 ∧ k_ ≠ gb510 ∧ k_ ≠ gb516) ho0 (fun k_ hk_ => ⟨(Kd.freshB (g := gb505) (o := .cells #[.slice A0_0 l0_0.length c0_0, .int .i64 a0_1, .slice A0_2 l0_2.length c0_2] 25 (0, 0)) (bF_ (bF_ (hK_ BK505.out) NB505_516.out) NB505_516.out) k_ hk_), (Kd.freshB (g := gb510) (o := .cells #[.int .i64 t507, .int .i64 t508] 34 (0, 0)) (bF_ (bF_ (hK_ BK510.out) NB510_516.out) NB510_516.out) k_ hk_), (Kd.freshB (g := gb516) (o := .cells #[.int .i64 t513, .int .i64 t514] 34 (0, 0)) (bP_ (bP_ (hK_ BK516.out))) k_ hk_)⟩)) (below_size hC_)); have n1_ := Aside0.mk (blk_below (g := gb505) (o := .cells #[.slice A0_0 l0_0.length c0_0, .int .i64 a0_1, .slice A0_2 l0_2.length c0_2] 25 (0, 0)) (bF_ (bF_ (hK_ BK505.out) NB505_516.out) NB505_516.out) hb); have n2_ := Aside0.mk (blk_below (g := gb510) (o := .cells #[.int .i64 t507, .int .i64 t508] 34 (0, 0)) (bF_ (bF_ (hK_ BK510.out) NB510_516.out) NB510_516.out) hb); have n3_ := Aside0.mk (blk_below (g := gb516) (o := .cells #[.int .i64 t513, .int .i64 t514] 34 (0, 0)) (bP_ (bP_ (hK_ BK516.out))) hb); have n4_ := Aside0.mk (below_step hC_ hb); clear BK505 BK510 BK516 HB; have HO519 := n0_; have BK505 := n1_; have BK510 := n2_; have BK516 := n3_; have HB := n4_; clear n0_ n1_ n2_ n3_ n4_; (try clear hb); (try clear hb2); (try clear hk); (try clear hi); (try clear ho0); obtain ⟨Ao42, co42, eo42⟩ := Kd.N_slice HO519.out; subst eo42))
      repeat (go_quiet (first | (go_at_call 11; (with_reducible refine (sleuthref12_Step.calls k1 _ _ l0_0 a0_1 _ _ l0_2 t513 t514 t515 _ ?side1 ?side2 ?side3 ?side4 A27.out).mono ?_); (case side1 => exact cB_ HR0_0.out); (case side2 => exact HC0_0.out); (case side3 => exact cB_ HR0_2.out); (case side4 => exact HC0_2.out); rintro e w34 ⟨rfl, hb⟩; have n0_ := Aside0.mk (bB_ BK505.out hb); have n1_ := Aside0.mk (bB_ BK510.out hb); have n2_ := Aside0.mk (below_step hC_ hb); clear BK505 BK510 HB; have BK505 := n0_; have BK510 := n1_; have HB := n2_; clear n0_ n1_ n2_; (try clear hb); (try clear hb2); (try clear hk); (try clear hi)) | ((with_reducible refine gate_dst (N := 6) rfl ?_); (try (refine gate_guard (by rfl) ?_; dsimp only)); refine boxE_ 6 #[.int .i64 0, .int .i64 0] 34 ?_; intro gb516 hg w35 hbox hb; have n0_ := Aside0.mk (bB_ BK505.out hb); have n1_ := Aside0.mk (bB_ BK510.out hb); have n2_ := Aside0.mk (below_step hC_ hb); have n3_ := Aside0.mk (hbox); have n4_ := Aside0.mk ((gE_ hg : w.heap.size ≤ gb516)); have n5_ := Aside0.mk ((gE_ hg : w.heap.size ≤ gb516)); have n6_ := Aside0.mk ((bL_ BK505.out hg : gb505 ≠ gb516)); have n7_ := Aside0.mk ((bG_ BK505.out hg : gb516 ≠ gb505)); have n8_ := Aside0.mk ((bL_ BK510.out hg : gb510 ≠ gb516)); have n9_ := Aside0.mk ((bG_ BK510.out hg : gb516 ≠ gb510)); clear BK505 BK510 HB; have BK505 := n0_; have BK510 := n1_; have HB := n2_; have BK516 := n3_; have GW516 := n4_; have GE516 := n5_; have NB505_516 := n6_; have NB516_505 := n7_; have NB510_516 := n8_; have NB516_510 := n9_; clear n0_ n1_ n2_ n3_ n4_ n5_ n6_ n7_ n8_ n9_; clear hb hbox hg; have hnb36 := NB516_505.out; have hnc36 := NB505_516.out; have hnb37 := NB516_510.out; have hnc37 := NB510_516.out; obtain ⟨hcz38_0, hcz38_1, hfz38_0, hfz38_1⟩ := bx2_ BK516.out; obtain ⟨hcz39_0, hcz39_1, hfz39_0, hfz39_1⟩ := bx2_ BK510.out; obtain ⟨hcz40_0, hcz40_1, hcz40_2, hfz40_0, hfz40_1, hfz40_2⟩ := bx3_ BK505.out) | (go_at_call 17; (with_reducible refine (sleuthlaw20_some.calls  t517 _ A31.out).mono ?_); rintro e w41 ⟨v518, rfl, ho0, hb⟩; have n0_ := Aside0.mk (Kd.N_lower (Kd.N_mono (ok' := fun k_ => k_ ≠ gb505 ∧ k_ ≠ gb510 ∧ k_ ≠ gb516) ho0 (fun k_ hk_ => ⟨(Kd.freshB (g := gb505) (o := .cells #[.slice A0_0 l0_0.length c0_0, .int .i64 a0_1, .slice A0_2 l0_2.length c0_2] 25 (0, 0)) (bF_ (bF_ (hK_ BK505.out) NB505_516.out) NB505_516.out) k_ hk_), (Kd.freshB (g := gb510) (o := .cells #[.int .i64 t507, .int .i64 t508] 34 (0, 0)) (bF_ (bF_ (hK_ BK510.out) NB510_516.out) NB510_516.out) k_ hk_), (Kd.freshB (g := gb516) (o := .cells #[.int .i64 t513, .int .i64 t514] 34 (0, 0)) (bP_ (bP_ (hK_ BK516.out))) k_ hk_)⟩)) (below_size hC_)); have n1_ := Aside0.mk (blk_below (g := gb505) (o := .cells #[.slice A0_0 l0_0.length c0_0, .int .i64 a0_1, .slice A0_2 l0_2.length c0_2] 25 (0, 0)) (bF_ (bF_ (hK_ BK505.out) NB505_516.out) NB505_516.out) hb); have n2_ := Aside0.mk (blk_below (g := gb510) (o := .cells #[.int .i64 t507, .int .i64 t508] 34 (0, 0)) (bF_ (bF_ (hK_ BK510.out) NB510_516.out) NB510_516.out) hb); have n3_ := Aside0.mk (blk_below (g := gb516) (o := .cells #[.int .i64 t513, .int .i64 t514] 34 (0, 0)) (bP_ (bP_ (hK_ BK516.out))) hb); have n4_ := Aside0.mk (below_step hC_ hb); clear BK505 BK510 BK516 HB; have HO519 := n0_; have BK505 := n1_; have BK510 := n2_; have BK516 := n3_; have HB := n4_; clear n0_ n1_ n2_ n3_ n4_; (try clear hb); (try clear hb2); (try clear hk); (try clear hi); (try clear ho0); obtain ⟨Ao42, co42, eo42⟩ := Kd.N_slice HO519.out; subst eo42)); try go_wp2_with (first | (go_at_call 11; (with_reducible refine (sleuthref12_Step.calls k1 _ _ l0_0 a0_1 _ _ l0_2 t513 t514 t515 _ ?side1 ?side2 ?side3 ?side4 A27.out).mono ?_); (case side1 => exact cB_ HR0_0.out); (case side2 => exact HC0_0.out); (case side3 => exact cB_ HR0_2.out); (case side4 => exact HC0_2.out); rintro e w34 ⟨rfl, hb⟩; have n0_ := Aside0.mk (bB_ BK505.out hb); have n1_ := Aside0.mk (bB_ BK510.out hb); have n2_ := Aside0.mk (below_step hC_ hb); clear BK505 BK510 HB; have BK505 := n0_; have BK510 := n1_; have HB := n2_; clear n0_ n1_ n2_; (try clear hb); (try clear hb2); (try clear hk); (try clear hi)) | ((with_reducible refine gate_dst (N := 6) rfl ?_); (try (refine gate_guard (by rfl) ?_; dsimp only)); refine boxE_ 6 #[.int .i64 0, .int .i64 0] 34 ?_; intro gb516 hg w35 hbox hb; have n0_ := Aside0.mk (bB_ BK505.out hb); have n1_ := Aside0.mk (bB_ BK510.out hb); have n2_ := Aside0.mk (below_step hC_ hb); have n3_ := Aside0.mk (hbox); have n4_ := Aside0.mk ((gE_ hg : w.heap.size ≤ gb516)); have n5_ := Aside0.mk ((gE_ hg : w.heap.size ≤ gb516)); have n6_ := Aside0.mk ((bL_ BK505.out hg : gb505 ≠ gb516)); have n7_ := Aside0.mk ((bG_ BK505.out hg : gb516 ≠ gb505)); have n8_ := Aside0.mk ((bL_ BK510.out hg : gb510 ≠ gb516)); have n9_ := Aside0.mk ((bG_ BK510.out hg : gb516 ≠ gb510)); clear BK505 BK510 HB; have BK505 := n0_; have BK510 := n1_; have HB := n2_; have BK516 := n3_; have GW516 := n4_; have GE516 := n5_; have NB505_516 := n6_; have NB516_505 := n7_; have NB510_516 := n8_; have NB516_510 := n9_; clear n0_ n1_ n2_ n3_ n4_ n5_ n6_ n7_ n8_ n9_; clear hb hbox hg; have hnb36 := NB516_505.out; have hnc36 := NB505_516.out; have hnb37 := NB516_510.out; have hnc37 := NB510_516.out; obtain ⟨hcz38_0, hcz38_1, hfz38_0, hfz38_1⟩ := bx2_ BK516.out; obtain ⟨hcz39_0, hcz39_1, hfz39_0, hfz39_1⟩ := bx2_ BK510.out; obtain ⟨hcz40_0, hcz40_1, hcz40_2, hfz40_0, hfz40_1, hfz40_2⟩ := bx3_ BK505.out) | (go_at_call 17; (with_reducible refine (sleuthlaw20_some.calls  t517 _ A31.out).mono ?_); rintro e w41 ⟨v518, rfl, ho0, hb⟩; have n0_ := Aside0.mk (Kd.N_lower (Kd.N_mono (ok' := fun k_ => k_ ≠ gb505 ∧ k_ ≠ gb510 ∧ k_ ≠ gb516) ho0 (fun k_ hk_ => ⟨(Kd.freshB (g := gb505) (o := .cells #[.slice A0_0 l0_0.length c0_0, .int .i64 a0_1, .slice A0_2 l0_2.length c0_2] 25 (0, 0)) (bF_ (bF_ (hK_ BK505.out) NB505_516.out) NB505_516.out) k_ hk_), (Kd.freshB (g := gb510) (o := .cells #[.int .i64 t507, .int .i64 t508] 34 (0, 0)) (bF_ (bF_ (hK_ BK510.out) NB510_516.out) NB510_516.out) k_ hk_), (Kd.freshB (g := gb516) (o := .cells #[.int .i64 t513, .int .i64 t514] 34 (0, 0)) (bP_ (bP_ (hK_ BK516.out))) k_ hk_)⟩)) (below_size hC_)); have n1_ := Aside0.mk (blk_below (g := gb505) (o := .cells #[.slice A0_0 l0_0.length c0_0, .int .i64 a0_1, .slice A0_2 l0_2.length c0_2] 25 (0, 0)) (bF_ (bF_ (hK_ BK505.out) NB505_516.out) NB505_516.out) hb); have n2_ := Aside0.mk (blk_below (g := gb510) (o := .cells #[.int .i64 t507, .int .i64 t508] 34 (0, 0)) (bF_ (bF_ (hK_ BK510.out) NB510_516.out) NB510_516.out) hb); have n3_ := Aside0.mk (blk_below (g := gb516) (o := .cells #[.int .i64 t513, .int .i64 t514] 34 (0, 0)) (bP_ (bP_ (hK_ BK516.out))) hb); have n4_ := Aside0.mk (below_step hC_ hb); clear BK505 BK510 BK516 HB; have HO519 := n0_; have BK505 := n1_; have BK510 := n2_; have BK516 := n3_; have HB := n4_; clear n0_ n1_ n2_ n3_ n4_; (try clear hb); (try clear hb2); (try clear hk); (try clear hi); (try clear ho0); obtain ⟨Ao42, co42, eo42⟩ := Kd.N_slice HO519.out; subst eo42)))
      go_ret
      exact ⟨hV_, hC_⟩
-- NOT PRINTED: function 35 (session_fresh)

-- NOT PRINTED: function 48 (api_Node)

-- NOT PRINTED: function 49 (api_Answer)

-- NOT PRINTED: function 50 (slices_Clone_string_string)

-- NOT PRINTED: function 36 (session_Copy)

-- NOT PRINTED: function 18 (session_New)

end Go.Proofs.YtgokcaccamfgfaaGreatDoor.G
