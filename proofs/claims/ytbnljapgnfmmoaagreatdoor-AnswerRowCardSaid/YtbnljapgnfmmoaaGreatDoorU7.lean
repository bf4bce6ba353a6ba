/- Parts of this proof, one behind the other: G28, G29, G30, G31, G1, G32, G33. -/
import Derived.Test.YtbnljapgnfmmoaaGreatDoorU2
import Derived.Test.YtbnljapgnfmmoaaGreatDoorG0
import Derived.Test.YtbnljapgnfmmoaaGreatDoorU5
import Derived.Test.YtbnljapgnfmmoaaGreatDoorU6
section
-- Laid by the session's own driver gp.py over the kit's printer. Not trusted: Lean checks it.
namespace Go.Proofs.YtbnljapgnfmmoaaGreatDoor.G
open Go.RowKit Go.Proofs.YtbnljapgnfmmoaaGreatDoorW.PrintWords Go.Proofs.YtbnljapgnfmmoaaGreatDoorW.PrintLast Go.Proofs.YtbnljapgnfmmoaaGreatDoorW.PrintMore
set_option maxHeartbeats 8000000
set_option maxRecDepth 100000
attribute [local go_sem] max2_int min2_int max_two min_two max_three min_three max_four min_four   -- for this text's walks alone
set_option linter.unusedVariables false
set_option linter.unusedSimpArgs false

def next_Step.f (k : Nat) (l0_0 : List (S66)) (a0_1 : Int) (l0_2 : List (S53)) : Option (Int × Int × Int) := (next_Marks.f k l0_0 a0_1 l0_2).bind fun bt174 => (if bt174.2 = 0 then ((next_Way.f a0_1).bind fun t178 => (if t178 = true then ((next_Ask.f k a0_1 l0_0 bt174.1).bind fun bt179 => (some (bt179.1, bt179.2, 0))) else (some (0, 0, 2000)))) else (some (0, 0, 2000)))
theorem next_Step.mono : ∀ a0 a1 a2 k, LeO (next_Step.f k a0 a1 a2) (next_Step.f (k + 1) a0 a1 a2) := by
 intro a0 a1 a2 k
 unfold next_Step.f
 repeat' first
  | (with_reducible exact next_Ask.mono _ _ _ _)
  | (with_reducible exact next_Marks.mono _ _ _ _)
  | (with_reducible exact LeO.refl _)
  | (with_reducible exact LeO.none _)
  | (with_reducible refine LeO.ite ?_ ?_)
  | (with_reducible refine LeO.bind ?_ (fun _ => ?_))
  | exact next_Ask.mono _ _ _ _
  | exact next_Marks.mono _ _ _ _
  | exact LeO.none _
  | refine LeO.ite ?_ ?_
  | refine LeO.bind ?_ (fun _ => ?_)
theorem next_Step.calls (k : Nat) (A0_0 : Option Addr) (c0_0 : Nat) (l0_0 : List (S66)) (a0_1 : Int) (A0_2 : Option Addr) (c0_2 : Nat) (l0_2 : List (S53)) (r1 : Int) (r2 : Int) (r3 : Int) (w : World) (hr0_0 : Kd.C k66 w A0_0 l0_0.length l0_0) (hc0_0 : l0_0.length ≤ c0_0) (hr0_2 : Kd.C k53 w A0_2 l0_2.length l0_2) (hc0_2 : l0_2.length ≤ c0_2) (h : next_Step.f k l0_0 a0_1 l0_2 = some (r1, r2, r3)) (hG : GOK w) :
 Calls Tryz.prog 23 #[.agg #[.slice A0_0 l0_0.length c0_0, .int .i64 a0_1, .slice A0_2 l0_2.length c0_2]] w fun e w' => e = .returned (.tuple #[.agg #[.int .i64 r1, .int .i64 r2], .int .i64 r3]) ∧ Below w.heap.size w w' := by
 have hu25 := Tryz.underlying25
 have hu49 := Tryz.underlying49
 have HR0_0 := a_ hr0_0
 have HC0_0 := a_ hc0_0
 clear hr0_0 hc0_0
 have HR0_2 := a_ hr0_2
 have HC0_2 := a_ hc0_2
 clear hr0_2 hc0_2
 have HB := a_ (Below.refl w.heap.size w)
 have H := h; unfold next_Step.f at H
 clear h
 replace H := Option.bind_eq_some_iff.mp H
 obtain ⟨⟨t174, t177⟩, A20, H⟩ := H
 try dsimp only at H
 have A2 := a_ A20
 clear A20
 by_cases c3 : t177 = 0
 case neg =>
  rw [if_neg c3] at H
  have c3b0 : (t177 == 0) = false := beq_eq_false_iff_ne.mpr c3
  have c3b1 : (t177 != 0) = true := bne_iff_ne.mpr c3
  simp only [Option.some.injEq, Prod.mk.injEq] at H
  obtain ⟨rfl, rfl, rfl⟩ := H
  go_enter Tryz.func23, Tryz.ntmps23
  go_wp2_with (first | ((with_reducible refine gate_dst (N := 1) rfl ?_); refine boxE_ 1 #[.slice A0_0 l0_0.length c0_0, .int .i64 a0_1, .slice A0_2 l0_2.length c0_2] 25 ?_; intro gb172 hg w23 hbox hb; have BK172 := a_ (hbox); have GW172 := a_ ((gE_ hg : w.heap.size ≤ gb172)); have GE172 := a_ ((gE_ hg : w.heap.size ≤ gb172)); replace HB := a_ (below_step hB_ hb); clear hb hbox hg) | ((with_reducible refine gate_dst (N := 2) rfl ?_); refine boxE_ 2 #[.int .i64 0, .int .i64 0] 49 ?_; intro gb173 hg w24 hbox hb; have BK173 := a_ (hbox); have GW173 := a_ ((gE_ hg : w.heap.size ≤ gb173)); have GE173 := a_ ((gE_ hg : w.heap.size ≤ gb173)); replace HB := a_ (below_step hC_ hb); have NB172_173 := a_ ((bL_ BK172.out hg : gb172 ≠ gb173)); have NB173_172 := a_ ((bG_ BK172.out hg : gb173 ≠ gb172)); replace BK172 := a_ (bB_ BK172.out hb); clear hb hbox hg; have hnb25 := NB172_173.out; have hnc25 := NB173_172.out; obtain ⟨hcz26_0, hcz26_1, hcz26_2, hfz26_0, hfz26_1, hfz26_2⟩ := bx3_ BK172.out) | ((with_reducible refine gate_callee (f := 38) rfl ?_); refine goesL_ (some 8) rfl rfl Tryz.func38 (by kernel_rfl) rfl #[.agg #[.slice A0_0 l0_0.length c0_0, .int .i64 a0_1, .slice A0_2 l0_2.length c0_2]] rfl hL_ ?_; (with_reducible refine (next_Marks.calls k _ _ l0_0 a0_1 _ _ l0_2 t174 t177 _ ?side1 ?side2 ?side3 ?side4 A2.out (by first | exact hG | exact GOK.below hG hC_)).mono ?_); (case side1 => exact cB_ HR0_0.out); (case side2 => exact HC0_0.out); (case side3 => exact cB_ HR0_2.out); (case side4 => exact HC0_2.out); rintro e w27 ⟨v175, rfl, ho0, hb⟩; refine ⟨_, rfl, ?_⟩; have HO176 := a_ (Kd.R_lower ho0 (below_size hC_)); replace BK172 := a_ (bB_ BK172.out hb); replace BK173 := a_ (bB_ BK173.out hb); replace HB := a_ (below_step hC_ hb); (try clear hb); (try clear hb2); (try clear hk); (try clear hi); (try clear ho0); obtain ⟨hcz28_0, hcz28_1, hfz28_0, hfz28_1⟩ := bx2_ BK173.out))
  refine bodyPost_ret (results_ct rfl _ _ gb173 49 #[.int .i64 0, .int .i64 0] (0, 0) _ rfl (bP_ (bP_ (hK_ BK173.out))) Tryz.underlying49 rfl (by kernel_rfl)) rfl ?_
  exact ⟨hV_, hC_⟩

 rw [if_pos c3] at H
 have c3b0 : (t177 == 0) = true := beq_iff_eq.mpr c3
 have c3b1 : (t177 != 0) = false := bne_eq_false_iff_eq.mpr c3
 clear c3
 replace H := Option.bind_eq_some_iff.mp H
 obtain ⟨t178, A40, H⟩ := H
 try dsimp only at H
 have A4 := a_ A40
 clear A40
 by_cases c5 : t178 = true
 case neg =>
  replace c5 := Bool.eq_false_iff.mpr c5
  subst c5
  rw [if_neg (show ¬ (false = true) by decide)] at H
  simp only [Option.some.injEq, Prod.mk.injEq] at H
  obtain ⟨rfl, rfl, rfl⟩ := H
  go_enter Tryz.func23, Tryz.ntmps23
  go_wp2_with (first | ((with_reducible refine gate_dst (N := 1) rfl ?_); refine boxE_ 1 #[.slice A0_0 l0_0.length c0_0, .int .i64 a0_1, .slice A0_2 l0_2.length c0_2] 25 ?_; intro gb172 hg w16 hbox hb; have BK172 := a_ (hbox); have GW172 := a_ ((gE_ hg : w.heap.size ≤ gb172)); have GE172 := a_ ((gE_ hg : w.heap.size ≤ gb172)); replace HB := a_ (below_step hB_ hb); clear hb hbox hg) | ((with_reducible refine gate_dst (N := 2) rfl ?_); refine boxE_ 2 #[.int .i64 0, .int .i64 0] 49 ?_; intro gb173 hg w17 hbox hb; have BK173 := a_ (hbox); have GW173 := a_ ((gE_ hg : w.heap.size ≤ gb173)); have GE173 := a_ ((gE_ hg : w.heap.size ≤ gb173)); replace HB := a_ (below_step hC_ hb); have NB172_173 := a_ ((bL_ BK172.out hg : gb172 ≠ gb173)); have NB173_172 := a_ ((bG_ BK172.out hg : gb173 ≠ gb172)); replace BK172 := a_ (bB_ BK172.out hb); clear hb hbox hg; have hnb18 := NB172_173.out; have hnc18 := NB173_172.out; obtain ⟨hcz19_0, hcz19_1, hcz19_2, hfz19_0, hfz19_1, hfz19_2⟩ := bx3_ BK172.out) | ((with_reducible refine gate_callee (f := 38) rfl ?_); refine goesL_ _ rfl rfl Tryz.func38 (by kernel_rfl) rfl #[.agg #[.slice A0_0 l0_0.length c0_0, .int .i64 a0_1, .slice A0_2 l0_2.length c0_2]] rfl hL_ ?_; (with_reducible refine (next_Marks.calls k _ _ l0_0 a0_1 _ _ l0_2 t174 t177 _ ?side1 ?side2 ?side3 ?side4 A2.out (by first | exact hG | exact GOK.below hG hC_)).mono ?_); (case side1 => exact cB_ HR0_0.out); (case side2 => exact HC0_0.out); (case side3 => exact cB_ HR0_2.out); (case side4 => exact HC0_2.out); rintro e w20 ⟨v175, rfl, ho0, hb⟩; refine ⟨_, rfl, ?_⟩; have HO176 := a_ (Kd.R_lower ho0 (below_size hC_)); replace BK172 := a_ (bB_ BK172.out hb); replace BK173 := a_ (bB_ BK173.out hb); replace HB := a_ (below_step hC_ hb); (try clear hb); (try clear hb2); (try clear hk); (try clear hi); (try clear ho0); obtain ⟨hcz21_0, hcz21_1, hcz21_2, hfz21_0, hfz21_1, hfz21_2⟩ := bx3_ BK172.out) | (go_at_call 39; (with_reducible refine (next_Way.calls a0_1 false _ A4.out).mono ?_); rintro e w' ⟨rfl, ⟨nd, rfl⟩⟩; (try (rw [drewN_self w20]; generalize hq_ : World.drewN w20 _ = w20; replace HO176 : Aside0 (Kd.R (Kd.int .i64) 3 w20 w.heap.size (fun _ => True) v175 t174) := ⟨by rw [← hq_]; exact (hR_ HO176.out)⟩; replace BK172 : Aside0 (w20.heap[gb172]? = some (.cells #[.slice A0_0 l0_0.length c0_0, .int .i64 a0_1, .slice A0_2 l0_2.length c0_2] 25 (0, 0))) := ⟨by rw [← hq_]; exact (hK_ BK172.out)⟩; replace BK173 : Aside0 (w20.heap[gb173]? = some (.cells #[.int .i64 0, .int .i64 0] 49 (0, 0))) := ⟨by rw [← hq_]; exact (hK_ BK173.out)⟩; replace HB : Aside0 (Below w.heap.size w w20) := ⟨by rw [← hq_]; exact hC_⟩; clear hq_; (try have hcu0_0 := bc0_ BK172.out); (try have hfu0_0 := blk_frozen BK172.out 0); (try have hcu0_1 := bc1_ BK172.out); (try have hfu0_1 := blk_frozen BK172.out 1); (try have hcu0_2 := bc2_ BK172.out); (try have hfu0_2 := blk_frozen BK172.out 2); (try have hcu1_0 := bc0_ BK173.out); (try have hfu1_0 := blk_frozen BK173.out 0); (try have hcu1_1 := bc1_ BK173.out); (try have hfu1_1 := blk_frozen BK173.out 1))); obtain ⟨hcz22_0, hcz22_1, hfz22_0, hfz22_1⟩ := bx2_ BK173.out))
  refine bodyPost_ret (results_ct rfl _ _ gb173 49 #[.int .i64 0, .int .i64 0] (0, 0) _ rfl (bP_ (bP_ (hK_ BK173.out))) Tryz.underlying49 rfl (by kernel_rfl)) rfl ?_
  exact ⟨hV_, hC_⟩
 subst c5
 rw [if_pos rfl] at H
 replace H := Option.bind_eq_some_iff.mp H
 obtain ⟨⟨t179, t180⟩, A60, H⟩ := H
 try dsimp only at H
 have A6 := a_ A60
 clear A60
 simp only [Option.some.injEq, Prod.mk.injEq] at H
 obtain ⟨rfl, rfl, rfl⟩ := H
 go_enter Tryz.func23, Tryz.ntmps23
 go_wp2_with (first | ((with_reducible refine gate_dst (N := 1) rfl ?_); refine boxE_ 1 #[.slice A0_0 l0_0.length c0_0, .int .i64 a0_1, .slice A0_2 l0_2.length c0_2] 25 ?_; intro gb172 hg w7 hbox hb; have BK172 := a_ (hbox); have GW172 := a_ ((gE_ hg : w.heap.size ≤ gb172)); have GE172 := a_ ((gE_ hg : w.heap.size ≤ gb172)); replace HB := a_ (below_step hB_ hb); clear hb hbox hg) | ((with_reducible refine gate_dst (N := 2) rfl ?_); refine boxE_ 2 #[.int .i64 0, .int .i64 0] 49 ?_; intro gb173 hg w8 hbox hb; have BK173 := a_ (hbox); have GW173 := a_ ((gE_ hg : w.heap.size ≤ gb173)); have GE173 := a_ ((gE_ hg : w.heap.size ≤ gb173)); replace HB := a_ (below_step hC_ hb); have NB172_173 := a_ ((bL_ BK172.out hg : gb172 ≠ gb173)); have NB173_172 := a_ ((bG_ BK172.out hg : gb173 ≠ gb172)); replace BK172 := a_ (bB_ BK172.out hb); clear hb hbox hg; have hnb9 := NB172_173.out; have hnc9 := NB173_172.out; obtain ⟨hcz10_0, hcz10_1, hcz10_2, hfz10_0, hfz10_1, hfz10_2⟩ := bx3_ BK172.out) | ((with_reducible refine gate_callee (f := 38) rfl ?_); refine goesL_ _ rfl rfl Tryz.func38 (by kernel_rfl) rfl #[.agg #[.slice A0_0 l0_0.length c0_0, .int .i64 a0_1, .slice A0_2 l0_2.length c0_2]] rfl hL_ ?_; (with_reducible refine (next_Marks.calls k _ _ l0_0 a0_1 _ _ l0_2 t174 t177 _ ?side1 ?side2 ?side3 ?side4 A2.out (by first | exact hG | exact GOK.below hG hC_)).mono ?_); (case side1 => exact cB_ HR0_0.out); (case side2 => exact HC0_0.out); (case side3 => exact cB_ HR0_2.out); (case side4 => exact HC0_2.out); rintro e w11 ⟨v175, rfl, ho0, hb⟩; refine ⟨_, rfl, ?_⟩; have HO176 := a_ (Kd.R_lower ho0 (below_size hC_)); replace BK172 := a_ (bB_ BK172.out hb); replace BK173 := a_ (bB_ BK173.out hb); replace HB := a_ (below_step hC_ hb); (try clear hb); (try clear hb2); (try clear hk); (try clear hi); (try clear ho0); obtain ⟨hcz12_0, hcz12_1, hcz12_2, hfz12_0, hfz12_1, hfz12_2⟩ := bx3_ BK172.out) | (go_at_call 39; (with_reducible refine (next_Way.calls a0_1 true _ A4.out).mono ?_); rintro e w' ⟨rfl, ⟨nd, rfl⟩⟩; (try (rw [drewN_self w11]; generalize hq_ : World.drewN w11 _ = w11; replace HO176 : Aside0 (Kd.R (Kd.int .i64) 3 w11 w.heap.size (fun _ => True) v175 t174) := ⟨by rw [← hq_]; exact (hR_ HO176.out)⟩; replace BK172 : Aside0 (w11.heap[gb172]? = some (.cells #[.slice A0_0 l0_0.length c0_0, .int .i64 a0_1, .slice A0_2 l0_2.length c0_2] 25 (0, 0))) := ⟨by rw [← hq_]; exact (hK_ BK172.out)⟩; replace BK173 : Aside0 (w11.heap[gb173]? = some (.cells #[.int .i64 0, .int .i64 0] 49 (0, 0))) := ⟨by rw [← hq_]; exact (hK_ BK173.out)⟩; replace HB : Aside0 (Below w.heap.size w w11) := ⟨by rw [← hq_]; exact hC_⟩; clear hq_; (try have hcu0_0 := bc0_ BK172.out); (try have hfu0_0 := blk_frozen BK172.out 0); (try have hcu0_1 := bc1_ BK172.out); (try have hfu0_1 := blk_frozen BK172.out 1); (try have hcu0_2 := bc2_ BK172.out); (try have hfu0_2 := blk_frozen BK172.out 2); (try have hcu1_0 := bc0_ BK173.out); (try have hfu1_0 := blk_frozen BK173.out 0); (try have hcu1_1 := bc1_ BK173.out); (try have hfu1_1 := blk_frozen BK173.out 1))); obtain ⟨Ao13, co13, eo13⟩ := Kd.R_slice HO176.out; subst eo13) | ((with_reducible refine gate_callee (f := 37) rfl ?_); refine goesL_ (some 25) rfl rfl Tryz.func37 (by kernel_rfl) rfl #[.int .i64 a0_1, .slice A0_0 l0_0.length c0_0, .slice Ao13 t174.length co13] rfl hL_ ?_; (with_reducible refine (next_Ask.calls k a0_1 _ _ l0_0 _ _ t174 t179 t180 _ ?side1 ?side2 ?side3 ?side4 A6.out (by first | exact hG | exact GOK.below hG hC_)).mono ?_); (case side1 => exact cB_ HR0_0.out); (case side2 => exact HC0_0.out); (case side3 => exact cC_ (Kd.R_reads' HO176.out).2.2); (case side4 => exact (Kd.R_reads' HO176.out).2.1); rintro e w14 ⟨rfl, hb⟩; refine ⟨_, rfl, ?_⟩; replace HO176 := a_ (Kd.R_below (hR_ HO176.out) hb); replace BK172 := a_ (bB_ BK172.out hb); replace BK173 := a_ (bB_ BK173.out hb); replace HB := a_ (below_step hC_ hb); (try clear hb); (try clear hb2); (try clear hk); (try clear hi); obtain ⟨hcz15_0, hcz15_1, hfz15_0, hfz15_1⟩ := bx2_ BK173.out))
 refine bodyPost_ret (results_ct rfl _ _ gb173 49 #[.int .i64 t179, .int .i64 t180] (0, 0) _ rfl (bP_ (bP_ (hK_ BK173.out))) Tryz.underlying49 rfl (by kernel_rfl)) rfl ?_
 exact ⟨hV_, hC_⟩
end Go.Proofs.YtbnljapgnfmmoaaGreatDoor.G
end
section
-- Laid by the session's own driver gp.py over the kit's printer. Not trusted: Lean checks it.
namespace Go.Proofs.YtbnljapgnfmmoaaGreatDoor.G
open Go.RowKit Go.Proofs.YtbnljapgnfmmoaaGreatDoorW.PrintWords Go.Proofs.YtbnljapgnfmmoaaGreatDoorW.PrintLast Go.Proofs.YtbnljapgnfmmoaaGreatDoorW.PrintMore
set_option maxHeartbeats 8000000
set_option maxRecDepth 100000
attribute [local go_sem] max2_int min2_int max_two min_two max_three min_three max_four min_four   -- for this text's walks alone
set_option linter.unusedVariables false
set_option linter.unusedSimpArgs false

/-- a row whose elements are another row's, as they lay in w0 -/
def borK {α : Type} (w0 : World) (d : Kd α) : Kd α where
 sz := d.sz
 E := d.E
 K := fun _ x cs => d.K w0 x cs
 M := fun _ _ _ x cs => d.K w0 x cs
 K_len := fun h => d.K_len h
 K_one := fun h => d.K_one h
 K_below := fun _ h => h
 K_of_M := fun h => h
 M_mono := fun _ h => h
 M_bound := fun h => h
 M_move := fun _ h => h
 M_lower := fun _ h => h
/-- the same, some of its elements made anew, each apart from the others (f) -/
def mixK {α : Type} (w0 : World) (f : Nat → Nat) (d : Kd α) : Kd (α × Option Nat) where
 sz := d.sz
 E := d.E
 K := fun w x cs => match x.2 with | some _ => d.K w x.1 cs | none => d.K w0 x.1 cs
 M := fun w base ok x cs => match x.2 with | some i => d.M w base (fun k => ok k ∧ f k = i) x.1 cs | none => d.K w0 x.1 cs
 K_len := by rintro w ⟨x, _ | i⟩ cs h <;> exact d.K_len h
 K_one := by rintro w ⟨x, _ | i⟩ cs h <;> exact d.K_one h
 K_below := by
  rintro w w1 ⟨x, _ | i⟩ cs hb h
  · exact h
  · exact d.K_below hb h
 K_of_M := by
  rintro w base ok ⟨x, _ | i⟩ cs h
  · exact h
  · exact d.K_of_M h
 M_mono := by
  rintro w base ok ok' ⟨x, _ | i⟩ cs hok h
  · exact h
  · exact d.M_mono (fun k hk => ⟨hok k hk.1, hk.2⟩) h
 M_bound := by
  rintro w base ok ⟨x, _ | i⟩ cs h
  · exact h
  · exact d.M_mono (fun _ hk => ⟨⟨hk.1.1, hk.2⟩, hk.1.2⟩) (d.M_bound h)
 M_move := by
  rintro w w1 base ok ⟨x, _ | i⟩ cs hm h
  · exact h
  · exact d.M_move (fun k hk => hm k hk.1) h
 M_lower := by
  rintro w base base' ok ⟨x, _ | i⟩ cs hb h
  · exact h
  · exact d.M_lower hb h
theorem mix_tag {α : Type} {w0 : World} {f f' : Nat → Nat} {d : Kd α} {e : Nat} {w : World} {base : Nat} {ok : Nat → Prop} {v : Value} {xs : List (α × Option Nat)} (h : (mixK w0 f d).R e w base ok v xs) (hf : ∀ k, k < w.heap.size → f' k = f k) : (mixK w0 f' d).R e w base ok v xs := by
 obtain ⟨h0, inner, ho, hr⟩ := h
 refine ⟨h0, inner, ho, hr.imp_ ?_⟩
 rintro ⟨x, _ | i⟩ cs h
 · exact h
 · exact d.M_mono (fun k hk => ⟨hk.1.1, (hf k hk.2.2.1).trans hk.1.2⟩) (d.M_bound h)
def mixL {α : Type} (l : List α) (n : Nat) : List (α × Option Nat) := l.zipIdx.map fun p => (p.1, if p.2 < n then some p.2 else none)
theorem mixL_len {α : Type} (l : List α) (n : Nat) : (mixL l n).length = l.length := by simp [mixL]
theorem mixL_at {α : Type} (l : List α) (n j : Nat) : (mixL l n)[j]? = (l[j]?).map fun x => (x, if j < n then some j else none) := by
 unfold mixL
 rw [List.getElem?_map, List.getElem?_zipIdx, Option.map_map, Nat.zero_add]
 rfl
theorem mixL_set {α : Type} (l : List α) (i : Nat) (x : α) (h : l[i]? = some x) : (mixL l i).set i (x, some i) = mixL l (i + 1) := by
 apply List.ext_getElem?
 intro j
 rw [List.getElem?_set, mixL_at, mixL_at, mixL_len]
 by_cases c : i = j
 case neg =>
  rw [if_neg c]
  congr 1
  funext x
  by_cases d : j < i
  case pos =>
   rw [if_pos d, if_pos (by omega)]
  rw [if_neg d, if_neg (by omega)]
 subst c
 have hl : i < l.length := (List.getElem?_eq_some_iff.1 h).1
 rw [if_pos rfl, if_pos hl, h, Option.map_some, if_pos (Nat.lt_succ_self i)]
theorem mix_start {α : Type} {w0 : World} {f : Nat → Nat} {d : Kd α} {e : Nat} {w : World} {base : Nat} {ok : Nat → Prop} {v : Value} {xs : List α} (h : (borK w0 d).R e w base ok v xs) : (mixK w0 f d).R e w base ok v (mixL xs 0) := by
 obtain ⟨h0, inner, ho, hl, hr⟩ := h
 refine ⟨h0, inner, by rw [mixL_len]; exact ho, by rw [mixL_len]; exact hl, fun j p hj => ?_⟩
 rw [mixL_at] at hj
 obtain ⟨x, hx, rfl⟩ := Option.map_eq_some_iff.1 hj
 rw [if_neg (Nat.not_lt_zero j)]
 exact hr j x hx
theorem mix_end {α : Type} {w0 : World} {f : Nat → Nat} {d : Kd α} {e : Nat} {w : World} {base : Nat} {ok : Nat → Prop} {v : Value} {xs : List α} (h : (mixK w0 f d).R e w base ok v (mixL xs xs.length)) : Kd.S d e w base ok v xs := by
 obtain ⟨h0, inner, ho, hl, hr⟩ := h
 rw [mixL_len] at ho hl
 refine ⟨f, h0, inner, by rw [List.length_zipIdx]; exact ho, by rw [List.length_zipIdx]; exact hl, fun j p hj => ?_⟩
 rw [List.getElem?_zipIdx, Nat.zero_add] at hj
 obtain ⟨x, hx, rfl⟩ := Option.map_eq_some_iff.1 hj
 have h2 := hr j (x, some j) (by rw [mixL_at, hx, Option.map_some, if_pos (List.getElem?_eq_some_iff.1 hx).1])
 exact h2
theorem clN.calls (A : Option Addr) (c : Nat) (xs : List S66) (w0 w : World) (hB0 : Below w0.heap.size w0 w) (hC : Kd.C k66 w0 A xs.length xs) (hl : xs.length * 56 ≤ 140737488355328) :
 Calls Tryz.prog 40 #[.slice A xs.length c] w fun e w' => ∃ v, e = .returned v ∧ (borK w0 k66).R 66 w' w.heap.size (fun _ => True) v xs ∧ Below w.heap.size w w' := by
 have q_ : ∀ (w : World) (a : Option Addr) (n c n' c' : Nat), (binOp .eql 22 (.slice a n c) (.slice none n' c')).run Tryz.prog w = .ok (.bool a.isNone) w := fun w a n c n' c' => Lib.run_eql_slice_nil w _ _ a n c n' c' Tryz.underlying22
 cases A with
 | none =>
  have h0 : xs.length = 0 := by
   rcases Nat.eq_zero_or_pos xs.length with h0 | h0
   · exact h0
   · obtain ⟨ad, h, _⟩ := hC.2.2 h0
     cases h
  obtain rfl : xs = [] := List.eq_nil_of_length_eq_zero h0
  clear hC hl h0 hB0
  go_enter Tryz.func40, Tryz.ntmps40
  go_wp2
  go_ret
  exact ⟨_, rfl, Kd.R_nil _ _ _ _ _, Below.refl _ _⟩
 | some ad =>
  have HC := a_ hC
  have HB0 := a_ hB0
  have HL := a_ hl
  clear hC hl hB0
  go_enter Tryz.func40, Tryz.ntmps40
  go_wp2_with (first
   | ((with_reducible refine gate_dst (N := 5) rfl ?_); refine Kd.R_lit (borK w0 k66) _ 66 ?hg (N := 5) ?hd (xs := ([] : List S66)) (inner := []) (ok := fun _ => True) (okp := fun _ => True) ?hr ?hp (fun _ hk => hk) trivial (Below.refl _ _) (Nat.le_refl _) (by simp) ?_; (case hd => rfl); (case hg => rfl); (case hr => first | (go_simp; done) | (go_simp; rfl)); (case hp => exact (Reps.none _ _)); intro v5 w5 ho hb hg_ hnew_; have HO := a_ ho; have HB := a_ hb; clear ho hb hg_ hnew_)
   | ((with_reducible refine gate_builtin (b := .append) (xs := #[.tmp 5, .tmp 6]) rfl ?_); at_builtin; refine Kd.R_append_rows (borK w0 k66) (Rr := Kd.K k66 w0) (w0 := w) w.heap.size rfl (.tmp 5) (.tmp 6) 22 66 (.agg #[(.int .i64 0), (.int .i64 0), (.slice none 0 0), (.string ⟨#[]⟩)]) 56 rfl Tryz.underlying22 info66 rfl (show 0 < 4 by decide) (by omega) v5 [] xs _ _ _ (fun _ => True) (fun _ => False) rfl rfl HO.out (HC.out.imp_ (below_step HB0.out HB.out) (fun _ _ h => h)) (fun _ _ h => h) (fun _ h => h.elim) (fun _ _ => trivial) HB.out HB.out.size (by have := HL.out; simp only [List.length_nil, Nat.zero_add]; exact this) ?_; intro v7 w7 ho hb hg hat; rw [List.nil_append] at ho; have HO2 := a_ ho; have HB2 := a_ hb; clear ho hb hg hat HO HB))
  go_ret
  exact ⟨_, rfl, HO2.out, HB2.out⟩
theorem clA.calls (A : Option Addr) (c : Nat) (xs : List S53) (w0 w : World) (hB0 : Below w0.heap.size w0 w) (hC : Kd.C k53 w0 A xs.length xs) (hl : xs.length * 16 ≤ 140737488355328) :
 Calls Tryz.prog 41 #[.slice A xs.length c] w fun e w' => ∃ v, e = .returned v ∧ (borK w0 k53).R 53 w' w.heap.size (fun _ => True) v xs ∧ Below w.heap.size w w' := by
 have q_ : ∀ (w : World) (a : Option Addr) (n c n' c' : Nat), (binOp .eql 23 (.slice a n c) (.slice none n' c')).run Tryz.prog w = .ok (.bool a.isNone) w := fun w a n c n' c' => Lib.run_eql_slice_nil w _ _ a n c n' c' Tryz.underlying23
 cases A with
 | none =>
  have h0 : xs.length = 0 := by
   rcases Nat.eq_zero_or_pos xs.length with h0 | h0
   · exact h0
   · obtain ⟨ad, h, _⟩ := hC.2.2 h0
     cases h
  obtain rfl : xs = [] := List.eq_nil_of_length_eq_zero h0
  clear hC hl h0 hB0
  go_enter Tryz.func41, Tryz.ntmps41
  go_wp2
  go_ret
  exact ⟨_, rfl, Kd.R_nil _ _ _ _ _, Below.refl _ _⟩
 | some ad =>
  have HC := a_ hC
  have HB0 := a_ hB0
  have HL := a_ hl
  clear hC hl hB0
  go_enter Tryz.func41, Tryz.ntmps41
  go_wp2_with (first
   | ((with_reducible refine gate_dst (N := 5) rfl ?_); refine Kd.R_lit (borK w0 k53) _ 53 ?hg (N := 5) ?hd (xs := ([] : List S53)) (inner := []) (ok := fun _ => True) (okp := fun _ => True) ?hr ?hp (fun _ hk => hk) trivial (Below.refl _ _) (Nat.le_refl _) (by simp) ?_; (case hd => rfl); (case hg => rfl); (case hr => first | (go_simp; done) | (go_simp; rfl)); (case hp => exact (Reps.none _ _)); intro v5 w5 ho hb hg_ hnew_; have HO := a_ ho; have HB := a_ hb; clear ho hb hg_ hnew_)
   | ((with_reducible refine gate_builtin (b := .append) (xs := #[.tmp 5, .tmp 6]) rfl ?_); at_builtin; refine Kd.R_append_rows (borK w0 k53) (Rr := Kd.K k53 w0) (w0 := w) w.heap.size rfl (.tmp 5) (.tmp 6) 23 53 (.agg #[(.int .i64 0), (.int .i64 0)]) 16 rfl Tryz.underlying23 info53 rfl (show 0 < 2 by decide) (by omega) v5 [] xs _ _ _ (fun _ => True) (fun _ => False) rfl rfl HO.out (HC.out.imp_ (below_step HB0.out HB.out) (fun _ _ h => h)) (fun _ _ h => h) (fun _ h => h.elim) (fun _ _ => trivial) HB.out HB.out.size (by have := HL.out; simp only [List.length_nil, Nat.zero_add]; exact this) ?_; intro v7 w7 ho hb hg hat; rw [List.nil_append] at ho; have HO2 := a_ ho; have HB2 := a_ hb; clear ho hb hg hat HO HB))
  go_ret
  exact ⟨_, rfl, HO2.out, HB2.out⟩
theorem clS.calls (A : Option Addr) (c : Nat) (xs : List ByteArray) (w0 w : World) (hB0 : Below w0.heap.size w0 w) (hC : Kd.C Kd.string w0 A xs.length xs) (hl : xs.length * 16 ≤ 140737488355328) :
 Calls Tryz.prog 42 #[.slice A xs.length c] w fun e w' => ∃ v, e = .returned v ∧ (borK w0 Kd.string).R 9 w' w.heap.size (fun _ => True) v xs ∧ Below w.heap.size w w' := by
 have q_ : ∀ (w : World) (a : Option Addr) (n c n' c' : Nat), (binOp .eql 64 (.slice a n c) (.slice none n' c')).run Tryz.prog w = .ok (.bool a.isNone) w := fun w a n c n' c' => Lib.run_eql_slice_nil w _ _ a n c n' c' Tryz.underlying64
 cases A with
 | none =>
  have h0 : xs.length = 0 := by
   rcases Nat.eq_zero_or_pos xs.length with h0 | h0
   · exact h0
   · obtain ⟨ad, h, _⟩ := hC.2.2 h0
     cases h
  obtain rfl : xs = [] := List.eq_nil_of_length_eq_zero h0
  clear hC hl h0 hB0
  go_enter Tryz.func42, Tryz.ntmps42
  go_wp2
  go_ret
  exact ⟨_, rfl, Kd.R_nil _ _ _ _ _, Below.refl _ _⟩
 | some ad =>
  have HC := a_ hC
  have HB0 := a_ hB0
  have HL := a_ hl
  clear hC hl hB0
  go_enter Tryz.func42, Tryz.ntmps42
  go_wp2_with (first
   | ((with_reducible refine gate_dst (N := 5) rfl ?_); refine Kd.R_lit (borK w0 Kd.string) _ 9 ?hg (N := 5) ?hd (xs := ([] : List ByteArray)) (inner := []) (ok := fun _ => True) (okp := fun _ => True) ?hr ?hp (fun _ hk => hk) trivial (Below.refl _ _) (Nat.le_refl _) (by simp) ?_; (case hd => rfl); (case hg => rfl); (case hr => first | (go_simp; done) | (go_simp; rfl)); (case hp => exact (Reps.none _ _)); intro v5 w5 ho hb hg_ hnew_; have HO := a_ ho; have HB := a_ hb; clear ho hb hg_ hnew_)
   | ((with_reducible refine gate_builtin (b := .append) (xs := #[.tmp 5, .tmp 6]) rfl ?_); at_builtin; refine Kd.R_append_rows (borK w0 Kd.string) (Rr := Kd.K Kd.string w0) (w0 := w) w.heap.size rfl (.tmp 5) (.tmp 6) 64 9 (.string ⟨#[]⟩) 16 rfl Tryz.underlying64 info9 rfl (show 0 < 1 by decide) (by omega) v5 [] xs _ _ _ (fun _ => True) (fun _ => False) rfl rfl HO.out (HC.out.imp_ (below_step HB0.out HB.out) (fun _ _ h => h)) (fun _ _ h => h) (fun _ h => h.elim) (fun _ _ => trivial) HB.out HB.out.size (by have := HL.out; simp only [List.length_nil, Nat.zero_add]; exact this) ?_; intro v7 w7 ho hb hg hat; rw [List.nil_append] at ho; have HO2 := a_ ho; have HB2 := a_ hb; clear ho hb hg hat HO HB))
  go_ret
  exact ⟨_, rfl, HO2.out, HB2.out⟩
def sc_fit (l0 : List S66) (l2 : List S53) : Bool := decide (l0.length ≤ 2513169434916) && (decide (l2.length ≤ 8796093022208) && l0.all fun x => decide (x.f2.length ≤ 8796093022208))
def session_Copy.f (l0_0 : List S66) (a0_1 : Int) (l0_2 : List S53) : Option (List S66 × Int × List S53) := if sc_fit l0_0 l0_2 = true then some (l0_0, a0_1, l0_2) else none
def session_Copy.T1 : Bool × List (List Nat × List Nat) := (true, [([], []), ([0], [0]), ([1], [1]), ([], []), ([3], [3]), ([4, 2], [4]), ([0, 1, 2, 3, 4], []), ([6, 2, 5, 0, 1, 2, 3, 4], [2, 6]), ([0, 1, 2, 3, 4, 5, 6, 7], []), ([8, 5, 7, 0, 1, 2, 3, 4, 5, 6, 7], [5, 8])])
def session_Copy.B1 : List Nat := [0, 1, 3, 0, 8, 31, 31, 127, 255, 511]
theorem session_Copy.tab1 : rtab .any (opsOf Tryz.f24 1) = session_Copy.T1 := by kernel_rfl
theorem session_Copy.bits1 : waitsOk session_Copy.T1.2 session_Copy.B1 = true := by kernel_rfl
def session_Copy.T5 : Bool × List (List Nat × List Nat) := (true, [([], []), ([0], [0]), ([], []), ([], []), ([3], [3]), ([], []), ([4, 5], [4, 5]), ([6], [6]), ([7], [7]), ([8], [8]), ([1, 2, 0, 1, 2, 3, 4, 5, 6, 7, 8, 9], [1, 2]), ([10, 0, 1, 2, 3, 4, 5, 6, 7, 8, 9], [10]), ([11, 9, 9, 0, 1, 2, 3, 4, 5, 6, 7, 8, 9], [9, 11])])
def session_Copy.B5 : List Nat := [0, 1, 0, 0, 8, 0, 56, 120, 248, 504, 1023, 2047, 4095]
theorem session_Copy.tab5 : rtab .any (opsOf Tryz.f24 5) = session_Copy.T5 := by kernel_rfl
theorem session_Copy.bits5 : waitsOk session_Copy.T5.2 session_Copy.B5 = true := by kernel_rfl
theorem mixL_rd (l : List S66) (x : Int) (h0 : 0 ≤ x) (h1 : x < (l.length : Int)) : (mixL l x.toNat).getD x.toNat (z66, none) = (rd_T66 l x, none) := by
 have hl : x.toNat < l.length := by omega
 rw [List.getD_eq_getElem?_getD, mixL_at, List.getElem?_eq_getElem hl, Option.map_some, if_neg (Nat.lt_irrefl _)]
 show (_, _) = (List.getD _ _ _, _)
 rw [List.getD_eq_getElem?_getD, List.getElem?_eq_getElem hl]; rfl
theorem rd_mem_N (l : List S66) (x : Int) (h0 : 0 ≤ x) (h1 : x < (l.length : Int)) : rd_T66 l x ∈ l := by
 show List.getD _ _ _ ∈ _
 rw [List.getD_eq_getElem?_getD, List.getElem?_eq_getElem (show x.toNat < l.length by omega)]
 exact List.getElem_mem _
theorem rd_some_N (l : List S66) (x : Int) (h0 : 0 ≤ x) (h1 : x < (l.length : Int)) : l[x.toNat]? = some (rd_T66 l x) := by
 have hl : x.toNat < l.length := by omega
 rw [List.getElem?_eq_getElem hl]
 show some _ = some (List.getD _ _ _)
 rw [List.getD_eq_getElem?_getD, List.getElem?_eq_getElem hl]; rfl
theorem wsuccN (x : Int) (h0 : 0 ≤ x) (h1 : x ≤ 9223372036854775806) : wrap64 (x + 1) = x + 1 := by unfold wrap64; omega
theorem sc_spec {l0 : List S66} {l2 : List S53} (h : sc_fit l0 l2 = true) : l0.length ≤ 2513169434916 ∧ l2.length ≤ 8796093022208 ∧ ∀ x ∈ l0, x.f2.length ≤ 8796093022208 := by
 unfold sc_fit at h
 rw [Bool.and_eq_true, Bool.and_eq_true, decide_eq_true_iff, decide_eq_true_iff] at h
 exact ⟨h.1, h.2.1, fun x hx => of_decide_eq_true (List.all_eq_true.1 h.2.2 x hx)⟩
theorem borA {w0 w : World} {e base : Nat} {ok : Nat → Prop} {v : Value} {xs : List S53} (h : (borK w0 k53).R e w base ok v xs) : k53.R e w base ok v xs := Kd.R_imp rfl (fun _ _ _ _ _ h => h) h
theorem borS {w0 w : World} {e base : Nat} {ok : Nat → Prop} {v : Value} {xs : List ByteArray} (h : (borK w0 Kd.string).R e w base ok v xs) : Kd.string.R e w base ok v xs := Kd.R_imp rfl (fun _ _ _ _ _ h => h) h
theorem session_Copy.callsS (A0_0 : Option Addr) (c0_0 : Nat) (l0_0 : List S66) (a0_1 : Int) (A0_2 : Option Addr) (c0_2 : Nat) (l0_2 : List S53) (w : World) (hr0_0 : Kd.C k66 w A0_0 l0_0.length l0_0) (hc0_0 : l0_0.length ≤ c0_0) (hr0_2 : Kd.C k53 w A0_2 l0_2.length l0_2) (hc0_2 : l0_2.length ≤ c0_2) (hfit : sc_fit l0_0 l0_2 = true) :
 Calls Tryz.prog 24 #[.agg #[.slice A0_0 l0_0.length c0_0, .int .i64 a0_1, .slice A0_2 l0_2.length c0_2]] w fun e w' => ∃ v0_ v2_ : Value, e = .returned (.agg #[v0_, .int .i64 a0_1, v2_]) ∧ Kd.S k66 66 w' w.heap.size (fun _ => True) v0_ l0_0 ∧ Kd.R k53 53 w' w.heap.size (fun _ => True) v2_ l0_2 ∧ Below w.heap.size w w' := by
 obtain ⟨hx0, hx2, hxa⟩ := sc_spec hfit
 have HR0 := a_ hr0_0
 have HC0 := a_ hc0_0
 have HR2 := a_ hr0_2
 have HC2 := a_ hc0_2
 have HL0 := a_ (show l0_0.length * 56 ≤ 140737488355328 by omega)
 have HL2 := a_ (show l0_2.length * 16 ≤ 140737488355328 by omega)
 have HLa := a_ hxa
 have hmx := a_ hx0
 clear hr0_0 hc0_0 hr0_2 hc0_2 hx0 hx2 hxa hfit
 have HB := a_ (Below.refl w.heap.size w)
 have hu := Tryz.underlying25
 go_enter Tryz.func24, Tryz.ntmps24
 go_wp2_with (first
  | ((with_reducible refine gate_dst (N := 1) rfl ?_); refine boxE_ 1 #[.slice A0_0 l0_0.length c0_0, .int .i64 a0_1, .slice A0_2 l0_2.length c0_2] 25 ?_; intro gb1 hg w1 hbox hb; have GE1 := a_ (gE_ hg : w.heap.size ≤ gb1); have n0_ := a_ (below_step hB_ hb); clear HB; have HB := n0_; have BK1 := a_ hbox; clear n0_ hg hbox hb)
  | ((with_reducible refine gate_dst (N := 2) rfl ?_); refine boxE_ 2 #[.slice none 0 0, .int .i64 0, .slice none 0 0] 25 ?_; intro gb2 hg w2 hbox hb; have GE2 := a_ (gE_ hg : w.heap.size ≤ gb2); have NB := a_ (bL_ BK1.out hg : gb1 ≠ gb2); have n0_ := a_ (below_step hC_ hb); have n1_ := a_ (bB_ BK1.out hb); clear HB BK1; have HB := n0_; have BK1 := n1_; have BK2 := a_ hbox; clear n0_ n1_ hg hbox hb))
 replace BK1 := a_ (blk_drew BK1.out)
 replace BK2 := a_ (blk_drew BK2.out)
 replace HB := a_ (below_drew1 HB.out)
 refine start_ (n := 10) (S := fun w' => w'.cell? ⟨gb1, 0, none⟩ = some (.slice A0_0 l0_0.length c0_0) ∧ w'.cell? ⟨gb1, 2, none⟩ = some (.slice A0_2 l0_2.length c0_2)) (ds := [7, 9]) #[false, false, false, false, false, false, false, false, false, false] (by kernel_rfl) rfl rfl ⟨bc0_ BK1.out, bc2_ BK1.out⟩ (fun hHeld => ?_)
 refine with_tabW session_Copy.tab1 session_Copy.bits1 (fun HT_ HW_ => ?_)
 generalize w2.drew = w3 at BK1 BK2 HB hHeld ⊢
 refine pB_ 0 4 HT_.out ?_
 refine pB_ 3 7 HT_.out ?_
 refine tB_ 1 5 HT_.out HW_.out hHeld ?_
 refine tB_ 4 8 HT_.out HW_.out hHeld ?_
 refine one_ (i := 2) (N := some 6) #[true, true, true, true, true, false, false, false, false, false] rfl rfl (one_of HT_.out (by kernel_rfl)) (by decide) (fun K hK => ?_)
 refine goes_ Tryz.func40 (by kernel_rfl) rfl #[.slice A0_0 l0_0.length c0_0] (by rfl) rfl rfl hL_ ?_
 refine (clN.calls A0_0 c0_0 l0_0 w _ HB.out HR0.out HL0.out).mono ?_
 rintro e w4 ⟨v0, rfl, ho0, hb⟩
 refine ⟨_, rfl, ?_⟩
 have HO0 := a_ (Kd.R_lower ho0 HB.out.size)
 have BK1' := a_ (blk_below BK1.out hb)
 have BK2' := a_ (blk_below BK2.out hb)
 have HB' := a_ (below_step HB.out hb)
 clear BK1 BK2 ho0 hb
 obtain ⟨Ao, co, e0⟩ := Kd.R_slice HO0.out
 subst e0
 refine hK.out _ _ ⟨bc0_ BK1'.out, bc2_ BK1'.out⟩ (fun hHeld => ?_)
 clear hK K
 refine norm_ (a' := ?_) ?_ ?_
 rotate_left
 · show Act.put _ (some 6) _ = _
   simp only [Act.put, List.setIfInBounds_toArray, List.set_cons_zero, List.set_cons_succ, i64_w, i32_w]
   rfl
 refine pB_ 6 10 HT_.out ?_
 refine one_ (i := 5) (N := some 9) #[true, true, true, true, true, true, true, false, false, false] rfl rfl (one_of HT_.out (by kernel_rfl)) (by decide) (fun K hK => ?_)
 refine goes_ Tryz.func41 (by kernel_rfl) rfl #[.slice A0_2 l0_2.length c0_2] (by rfl) rfl rfl hL_ ?_
 refine (clA.calls A0_2 c0_2 l0_2 w _ HB'.out HR2.out HL2.out).mono ?_
 rintro e w5 ⟨v2, rfl, ho2, hb⟩
 refine ⟨_, rfl, ?_⟩
 have HO2 := a_ (borA (Kd.R_lower ho2 HB'.out.size))
 have HO0' := a_ (Kd.R_below HO0.out hb)
 have BK1 := a_ (blk_below BK1'.out hb)
 have BK2 := a_ (blk_below BK2'.out hb)
 have HB5 := a_ (below_step HB'.out hb)
 clear BK1' BK2' ho2 hb HO0 HB'
 obtain ⟨Ao2, co2, e2⟩ := Kd.R_slice HO2.out
 subst e2
 refine hK.out _ _ ⟨bc0_ BK1.out, bc2_ BK1.out⟩ (fun hHeld => ?_)
 clear hK K
 refine norm_ (a' := ?_) ?_ ?_
 rotate_left
 · show Act.put _ (some 9) _ = _
   simp only [Act.put, List.setIfInBounds_toArray, List.set_cons_zero, List.set_cons_succ, i64_w, i32_w]
   rfl
 refine last_ (i := 7) (N := none) #[true, true, true, true, true, true, true, true, false, false] rfl rfl (one_of HT_.out (by kernel_rfl)) (by decide) (fun K hK => ?_)
 obtain ⟨hc0, hc1, hc2, hf0, hf1, hf2⟩ := bx3_ BK1.out
 refine skip_ (w1 := ?_) (by rfl) rfl ?_ ?_
 rotate_left
 · go_simp
   rfl
 refine hK.out _ _ ?_
 clear hK K hc0 hc1 hc2 hf0 hf1 hf2 hHeld
 have n0_ : Aside0 _ := a_ (bP_ (u := .slice Ao l0_0.length co) (i := 0) (cs' := #[.slice Ao l0_0.length co, .int .i64 a0_1, .slice A0_2 l0_2.length c0_2]) BK1.out)
 have n1_ := a_ (bF_ (p := ⟨gb1, 0, none⟩) (u := .slice Ao l0_0.length co) BK2.out (Ne.symm NB.out))
 have n2_ := a_ (Kd.R_drop (rF_ (j := 0) (u := .slice Ao l0_0.length co) (Kd.R_types HO0'.out BK1.out (show ∀ q, q ∈ ([66, 9] : List Nat) → q ≠ 25 by decide))))
 have n3_ := a_ (Kd.R_drop (rF_ (j := 0) (u := .slice Ao l0_0.length co) (Kd.R_types HO2.out BK1.out (by decide))))
 have n4_ := a_ (below_set (j := 0) (v := .slice Ao l0_0.length co) HB5.out GE1.out)
 clear BK1 BK2 HO0' HO2 HB5
 have BK1 := n0_
 have BK2 := n1_
 have HO0' := n2_
 have HO2 := n3_
 have HB5 := n4_
 clear n0_ n1_ n2_ n3_ n4_
 generalize w5.setCell ⟨gb1, 0, none⟩ (.slice Ao l0_0.length co) = w6 at BK1 BK2 HO0' HO2 HB5 ⊢
 refine pB_ 8 11 HT_.out ?_
 refine last_ (i := 9) (N := none) #[true, true, true, true, true, true, true, true, true, true] rfl rfl (one_of HT_.out (by kernel_rfl)) (by decide) (fun K hK => ?_)
 obtain ⟨hc0, hc1, hc2, hf0, hf1, hf2⟩ := bx3_ BK1.out
 refine skip_ (w1 := ?_) (by rfl) rfl ?_ ?_
 rotate_left
 · go_simp
   rfl
 refine hK.out _ _ ?_
 clear hK K hc0 hc1 hc2 hf0 hf1 hf2
 have n0_ := a_ (bP_ (u := .slice Ao2 l0_2.length co2) (i := 2) (cs' := #[.slice Ao l0_0.length co, .int .i64 a0_1, .slice Ao2 l0_2.length co2]) BK1.out)
 have n1_ := a_ (bF_ (p := ⟨gb1, 2, none⟩) (u := .slice Ao2 l0_2.length co2) BK2.out (Ne.symm NB.out))
 have n2_ := a_ (Kd.R_drop (rF_ (j := 2) (u := .slice Ao2 l0_2.length co2) (Kd.R_types HO0'.out BK1.out (show ∀ q, q ∈ ([66, 9] : List Nat) → q ≠ 25 by decide))))
 have n3_ := a_ (Kd.R_drop (rF_ (j := 2) (u := .slice Ao2 l0_2.length co2) (Kd.R_types HO2.out BK1.out (by decide))))
 have n4_ := a_ (below_set (j := 2) (v := .slice Ao2 l0_2.length co2) HB5.out GE1.out)
 clear BK1 BK2 HO0' HO2 HB5
 have BK1 := n0_
 have BK2 := n1_
 have HO0' := n2_
 have HO2 := n3_
 have HB5 := n4_
 clear n0_ n1_ n2_ n3_ n4_
 generalize w6.setCell ⟨gb1, 2, none⟩ (.slice Ao2 l0_2.length co2) = w7 at BK1 BK2 HO0' HO2 HB5 ⊢
 refine done_ (done_of HT_.out (by kernel_rfl)) ?_
 clear HT_ HW_
 have HM := a_ (mix_start (f := fun _ => 0) HO0'.out)
 clear HO0'
 obtain ⟨hc0, hc1, hc2, hf0, hf1, hf2⟩ := bx3_ BK1.out
 go_wp2
 clear hc0 hc1 hc2 hf0 hf1 hf2
 go_loopw [15] (fun v wr => ∃ x : Int, v = .int .i64 x ∧ Aside0 (0 ≤ x ∧ x ≤ (l0_0.length : Int)) ∧ Aside0 (wr.heap[gb1]? = some (.cells #[.slice Ao l0_0.length co, .int .i64 a0_1, .slice Ao2 l0_2.length co2] 25 (0, 0))) ∧ Aside0 (wr.heap[gb2]? = some (.cells #[.slice none 0 0, .int .i64 0, .slice none 0 0] 25 (0, 0))) ∧ Aside0 (k53.R 53 wr w.heap.size (fun _ => True) (.slice Ao2 l0_2.length co2) l0_2) ∧ Aside0 (Below w.heap.size w wr) ∧ Aside0 (∃ f, (mixK w f k66).R 66 wr w.heap.size (fun _ => True) (.slice Ao l0_0.length co) (mixL l0_0 x.toNat))) (fun v _ => l0_0.length - (intOf v).toNat)
 case atStart => exact ⟨0, rfl, ⟨by omega, by omega⟩, BK1, BK2, HO2, HB5, ⟨⟨_, HM.out⟩⟩⟩
 case round =>
  clear BK1 BK2 HO2 HB5 HM
  obtain ⟨x, rfl, HX, BK1, BK2, HO2, HB, HM⟩ := hrel
  by_cases hlt : x < (l0_0.length : Int)
  case neg =>
   have hltb := decide_eq_false hlt
   obtain ⟨f, hM⟩ := HM.out
   have hxl : x.toNat = l0_0.length := by have := HX.out; omega
   rw [hxl] at hM
   have hS := a_ (mix_end hM)
   obtain ⟨hc0, hc1, hc2, hf0, hf1, hf2⟩ := bx3_ BK1.out
   obtain ⟨kc0, kc1, kc2, kf0, kf1, kf2⟩ := bx3_ BK2.out
   have hn1 := NB.out
   have hn2 := Ne.symm NB.out
   clear hM HM hlt hxl
   go_wp2
   refine bodyPost_ret (results_cell_row rfl _ _ gb2 25 #[.slice Ao l0_0.length co, .int .i64 a0_1, .slice Ao2 l0_2.length co2] (0, 0) _ rfl (bP_ (i := 2) (cs' := #[.slice Ao l0_0.length co, .int .i64 a0_1, .slice Ao2 l0_2.length co2]) (bP_ (i := 1) (cs' := #[.slice Ao l0_0.length co, .int .i64 a0_1, .slice none 0 0]) (bP_ (i := 0) (cs' := #[.slice Ao l0_0.length co, .int .i64 0, .slice none 0 0]) BK2.out))) hu rfl (by kernel_rfl)) rfl ?_
   refine ⟨_, _, rfl, ?_, ?_, ?_⟩
   · exact Kd.S_mono (sF_ (sF_ (sF_ (Kd.S_types hS.out BK2.out (show ∀ q, q ∈ ([66, 9] : List Nat) → q ≠ 25 by decide))))) (fun _ _ => trivial)
   · exact Kd.R_mono (rF_ (rF_ (rF_ (Kd.R_types HO2.out BK2.out (by decide))))) (fun _ _ => trivial)
   · exact below_set (below_set (below_set HB.out GE2.out) GE2.out) GE2.out
  have hltb := decide_eq_true hlt
  obtain ⟨f, hM⟩ := HM.out
  have hx0 := HX.out.1
  obtain ⟨g, cap, e, hbg, hgl, cells, hgc⟩ := Kd.R_form hM (by rw [mixL_len]; omega)
  rw [mixL_len] at e
  injection e with e1 e2_ e3
  subst e1 e3
  obtain ⟨c, hcl, hcM, hcc, hfz⟩ := Kd.R_elem hM (z66, none) x hx0 (by omega)
  rw [mixL_rd l0_0 x hx0 hlt] at hcM
  obtain ⟨A2e, c2e, rfl, hl2e, hC2e⟩ := k66_open (show k66.K w (rd_T66 l0_0 x) c from hcM)
  have hcell : wr.drew.cell? ⟨g, x.toNat * 4 + 2, none⟩ = some (.slice A2e (rd_T66 l0_0 x).f2.length c2e) := hcc 2 _ rfl
  have HF := a_ (show (rd_T66 l0_0 x).f2.length * 16 ≤ 140737488355328 by have := HLa.out _ (rd_mem_N l0_0 x hx0 hlt); omega)
  have HE := a_ (And.intro hx0 (And.intro hlt (And.intro hbg (And.intro hl2e hC2e))))
  have HM' := a_ (Kd.R_drew hM)
  have HCC := a_ (show ∀ j u, [Value.int .i64 (rd_T66 l0_0 x).f0, .int .i64 (rd_T66 l0_0 x).f1, .slice A2e (rd_T66 l0_0 x).f2.length c2e, .string (rd_T66 l0_0 x).f3][j]? = some u → wr.drew.cell? ⟨g, x.toNat * 4 + j, none⟩ = some u from hcc)
  have HGC := a_ (show wr.drew.heap[g]? = some (.cells cells 66 (0, 0)) from hgc)
  replace BK1 := a_ (blk_drew BK1.out)
  replace BK2 := a_ (blk_drew BK2.out)
  replace HB := a_ (below_drew1 HB.out)
  replace HO2 := a_ (Kd.R_drew HO2.out)
  clear HM hM hbg hgl hgc hcl hcM hcc hfz hl2e hC2e
  have hlt_ := eq_true hlt
  have hx0_ := eq_true hx0
  have hu1 := Tryz.underlying66
  have hu2 := Tryz.underlying22
  clear hlt hx0
  have HX0 := a_ hcell
  clear hcell
  go_wp2
  have hcell := HX0.out
  refine start_ (n := 13) (S := fun w' => w'.cell? ⟨gb1, 0, none⟩ = some (.slice (some ⟨g, 0, none⟩) l0_0.length co) ∧ w'.cell? ⟨g, x.toNat * 4 + 2, none⟩ = some (.slice A2e (rd_T66 l0_0 x).f2.length c2e)) (ds := [12]) #[false, false, false, false, false, false, false, false, false, false, false, false, false] (by kernel_rfl) rfl rfl ⟨bc0_ BK1.out, hcell⟩ (fun hHeld => ?_)
  refine with_tabW session_Copy.tab5 session_Copy.bits5 (fun HT_ HW_ => ?_)
  clear hcell HX0
  generalize wr.drew = w3 at BK1 BK2 HB HO2 HM' HCC HGC hHeld ⊢
  refine pB_ 0 18 HT_.out ?_
  refine pB_ 2 20 HT_.out ?_
  refine pB_ 3 21 HT_.out ?_
  refine pB_ 5 23 HT_.out ?_
  refine tB_ 1 19 HT_.out HW_.out hHeld ?_
  refine tB_ 4 22 HT_.out HW_.out hHeld ?_
  refine pB_ 6 24 HT_.out ?_
  refine pB_ 7 25 HT_.out ?_
  refine tB_ 8 26 HT_.out HW_.out hHeld ?_
  refine one_ (i := 9) (N := some 27) #[true, true, true, true, true, true, true, true, true, true, false, false, false] rfl rfl (one_of HT_.out (by kernel_rfl)) (by decide) (fun K hK => ?_)
  refine goes_ Tryz.func42 (by kernel_rfl) rfl #[.slice A2e (rd_T66 l0_0 x).f2.length c2e] (by rfl) rfl rfl hL_ ?_
  refine (clS.calls A2e c2e (rd_T66 l0_0 x).f2 w _ HB.out HE.out.2.2.2.2 HF.out).mono ?_
  rintro e w4 ⟨v5, rfl, ho, hb⟩
  refine ⟨_, rfl, ?_⟩
  have HOS := a_ (borS ho)
  obtain ⟨A5, c5, e5⟩ := Kd.R_slice HOS.out
  subst e5
  have n0_ := a_ (blk_below BK1.out hb)
  have n1_ := a_ (blk_below BK2.out hb)
  have n2_ := a_ (below_step HB.out hb)
  have n3_ := a_ (Kd.R_below HO2.out hb)
  have n4_ := a_ (And.intro HM'.out hb)
  have HGL := a_ (blk_lt HGC.out)
  have n5_ := a_ (blk_below HGC.out hb)
  have HCC' := a_ (fun j u (hu : [Value.int .i64 (rd_T66 l0_0 x).f0, .int .i64 (rd_T66 l0_0 x).f1, .slice A2e (rd_T66 l0_0 x).f2.length c2e, .string (rd_T66 l0_0 x).f3][j]? = some u) => (hb.cell (World.block_lt_of_cell? w3 _ (HCC.out j u hu))).trans (HCC.out j u hu))
  clear BK1 BK2 HB HO2 HM' HGC
  have BK1 := n0_
  have BK2 := n1_
  have HB := n2_
  have HO2 := n3_
  have HM' := n4_
  have HGC := n5_
  clear n0_ n1_ n2_ n3_ n4_ n5_
  clear HCC ho hb
  refine hK.out _ _ ⟨bc0_ BK1.out, HCC'.out 2 _ rfl⟩ (fun hHeld => ?_)
  clear hK K
  refine norm_ (a' := ?_) ?_ ?_
  rotate_left
  · show Act.put _ (some 27) _ = _
    simp only [Act.put, List.setIfInBounds_toArray, List.set_cons_zero, List.set_cons_succ, i64_w, i32_w]
    rfl
  refine pB_ 10 28 HT_.out ?_
  refine pB_ 11 29 HT_.out ?_
  refine last_ (i := 12) (N := none) #[true, true, true, true, true, true, true, true, true, true, true, true, true] rfl rfl (one_of HT_.out (by kernel_rfl)) (by decide) (fun K hK => ?_)
  have hcell := HCC'.out 2 _ rfl
  have hfrz := blk_frozen HGC.out (x.toNat * 4 + 2)
  refine skip_ (w1 := ?_) (by rfl) rfl ?_ ?_
  rotate_left
  · go_simp
    rfl
  refine hK.out _ _ ?_
  clear hK K hHeld
  refine done_ (done_of HT_.out (by kernel_rfl)) ?_
  go_wp2
  obtain ⟨hx0, hlt, hbg, hl2e, hC2e⟩ := HE.out
  have hw : wrap64 (x + 1) = x + 1 := wsuccN x hx0 (by have := hmx.out; omega)
  have hng1 : gb1 ≠ g := blk_ne BK1.out HGC.out (by decide)
  have hng2 : gb2 ≠ g := blk_ne BK2.out HGC.out (by decide)
  have hR' := Kd.R_below (mix_tag (f' := fun k => if k < w3.heap.size then f k else x.toNat) HM'.out.1 (fun k hk => by rw [if_pos hk])) HM'.out.2
  have hST : Kd.string.R 9 w4 w.heap.size (fun k => w3.heap.size ≤ k ∧ (if k < w3.heap.size then f k else x.toNat) = x.toNat) (.slice A5 (rd_T66 l0_0 x).f2.length c5) (rd_T66 l0_0 x).f2 := Kd.R_lower (Kd.R_mono (Kd.R_bound HOS.out) (fun k hk => ⟨hk.2.1, by rw [if_neg (Nat.not_lt.2 hk.2.1)]⟩)) (Nat.le_trans hbg (Nat.le_of_lt HGL.out))
  have hSEG := (Kd.R_seg (okp := fun k => w3.heap.size ≤ k) hR' x hx0 (by omega) (seg := [.slice A5 (rd_T66 l0_0 x).f2.length c5]) (j := 2) (x' := (rd_T66 l0_0 x, some x.toNat)) rfl HCC'.out (show 2 + 1 ≤ 4 by decide) (k66_mkM w4 w.heap.size _ (rd_T66 l0_0 x) hST) (fun k hk => ⟨trivial, fun e => by have := HGL.out; omega⟩)).1
  rw [mixL_set l0_0 x.toNat (rd_T66 l0_0 x) (rd_some_N l0_0 x hx0 hlt)] at hSEG
  rw [hw]
  refine ⟨⟨x + 1, rfl, ⟨by omega, by omega⟩, ⟨bF_ (p := ⟨g, x.toNat * 4 + 2, none⟩) (u := .slice A5 (rd_T66 l0_0 x).f2.length c5) BK1.out hng1⟩, ⟨bF_ (p := ⟨g, x.toNat * 4 + 2, none⟩) (u := .slice A5 (rd_T66 l0_0 x).f2.length c5) BK2.out hng2⟩, ⟨Kd.R_drop (Kd.R_far (p := ⟨g, x.toNat * 4 + 2, none⟩) (Kd.R_types HO2.out HGC.out (by decide)) (fun _ hk => hk.2) (.slice A5 (rd_T66 l0_0 x).f2.length c5))⟩, ⟨HB.out.setCell (p := ⟨g, x.toNat * 4 + 2, none⟩) hbg (.slice A5 (rd_T66 l0_0 x).f2.length c5)⟩, ⟨⟨fun k => if k < w3.heap.size then f k else x.toNat, ?_⟩⟩⟩, by simp only [intOf]; omega⟩
  rw [show (x + 1).toNat = x.toNat + 1 by omega]
  exact hSEG
theorem session_Copy.calls (A0_0 : Option Addr) (c0_0 : Nat) (l0_0 : List S66) (a0_1 : Int) (A0_2 : Option Addr) (c0_2 : Nat) (l0_2 : List S53) (r1 : List S66) (r2 : Int) (r3 : List S53) (w : World) (hr0_0 : Kd.C k66 w A0_0 l0_0.length l0_0) (hc0_0 : l0_0.length ≤ c0_0) (hr0_2 : Kd.C k53 w A0_2 l0_2.length l0_2) (hc0_2 : l0_2.length ≤ c0_2) (h : session_Copy.f l0_0 a0_1 l0_2 = some (r1, r2, r3)) :
 Calls Tryz.prog 24 #[.agg #[.slice A0_0 l0_0.length c0_0, .int .i64 a0_1, .slice A0_2 l0_2.length c0_2]] w fun e w' => ∃ v0_ v2_ : Value, e = .returned (.agg #[v0_, .int .i64 r2, v2_]) ∧ Kd.S k66 66 w' w.heap.size (fun _ => True) v0_ r1 ∧ Kd.R k53 53 w' w.heap.size (fun _ => True) v2_ r3 ∧ Below w.heap.size w w' := by
 unfold session_Copy.f at h
 by_cases c : sc_fit l0_0 l0_2 = true
 case neg =>
  rw [if_neg c] at h; cases h

 rw [if_pos c] at h
 obtain ⟨rfl, h2⟩ := Prod.mk.inj (Option.some.inj h)
 obtain ⟨rfl, rfl⟩ := Prod.mk.inj h2
 refine (session_Copy.callsS A0_0 c0_0 l0_0 a0_1 A0_2 c0_2 l0_2 w hr0_0 hc0_0 hr0_2 hc0_2 c).mono ?_
 rintro e w' ⟨v0, v2, h1, h2, h3, h4⟩
 exact ⟨v0, v2, h1, h2, h3, h4⟩
end Go.Proofs.YtbnljapgnfmmoaaGreatDoor.G
end
section
-- Laid by the session's own driver gp.py over the kit's printer. Not trusted: Lean checks it.
namespace Go.Proofs.YtbnljapgnfmmoaaGreatDoor.G
open Go.RowKit Go.Proofs.YtbnljapgnfmmoaaGreatDoorW.PrintWords Go.Proofs.YtbnljapgnfmmoaaGreatDoorW.PrintLast Go.Proofs.YtbnljapgnfmmoaaGreatDoorW.PrintMore
set_option maxHeartbeats 8000000
set_option maxRecDepth 100000
attribute [local go_sem] max2_int min2_int max_two min_two max_three min_three max_four min_four   -- for this text's walks alone
set_option linter.unusedVariables false
set_option linter.unusedSimpArgs false

def answer_Put.j0 : Nat → Int → Bool → List (S66) → Int → List (S53) → Option ((List (S66)) × Int × (List (S53)) × Int)
 | 0, _, _, _, _, _ => none
 | k + 1, x1, x16, x182000, x182001, x182002 => if x16 = true then (some (([] : List (S66)), 0, ([] : List (S53)), 2200)) else ((next_Step.f k x182000 x182001 x182002).bind fun bt185 => (if bt185.1 = 0 then ((session_Copy.f x182000 x182001 x182002).bind fun bt189 => (if bt189.2.2.length < 8796093022208 then (some (bt189.1, bt189.2.1, (bt189.2.2 ++ [(⟨bt185.2.1, x1⟩ : S53)]), 0)) else (none))) else (some (([] : List (S66)), 0, ([] : List (S53)), 2201))))
def answer_Put.f (k : Nat) (l0_0 : List (S66)) (a0_1 : Int) (l0_2 : List (S53)) (a1 : Int) : Option ((List (S66)) × Int × (List (S53)) × Int) := (session_May.f k l0_0 a0_1 l0_2).bind fun t183 => (if t183 = true then ((next_Mark.f a1).bind fun t184 => (answer_Put.j0 k a1 (!t184) l0_0 a0_1 l0_2)) else (answer_Put.j0 k a1 true l0_0 a0_1 l0_2))
theorem answer_Put.mono_l : ∀ k, (∀ y0 y1 y2 y3 y4, LeO (answer_Put.j0 k y0 y1 y2 y3 y4) (answer_Put.j0 (k + 1) y0 y1 y2 y3 y4))
 | 0 => fun _ _ _ _ _ r h => by simp [answer_Put.j0] at h
 | k + 1 => by
  have ih0 := answer_Put.mono_l k
  · intro y0 y1 y2 y3 y4
    unfold answer_Put.j0
    repeat' first
    | (with_reducible exact ih0 _ _ _ _ _)
    | (with_reducible exact next_Step.mono _ _ _ _)
    | (with_reducible exact session_May.mono _ _ _ _)
    | (with_reducible exact LeO.refl _)
    | (with_reducible exact LeO.none _)
    | (with_reducible refine LeO.ite ?_ ?_)
    | (with_reducible refine LeO.bind ?_ (fun _ => ?_))
    | exact ih0 _ _ _ _ _
    | exact next_Step.mono _ _ _ _
    | exact session_May.mono _ _ _ _
    | exact LeO.none _
    | refine LeO.ite ?_ ?_
    | refine LeO.bind ?_ (fun _ => ?_)
theorem answer_Put.mono : ∀ a0 a1 a2 a3 k, LeO (answer_Put.f k a0 a1 a2 a3) (answer_Put.f (k + 1) a0 a1 a2 a3) := by
 intro a0 a1 a2 a3 k
 have ih0 := answer_Put.mono_l k
 unfold answer_Put.f
 repeat' first
  | (with_reducible exact ih0 _ _ _ _ _)
  | (with_reducible exact next_Step.mono _ _ _ _)
  | (with_reducible exact session_May.mono _ _ _ _)
  | (with_reducible exact LeO.refl _)
  | (with_reducible exact LeO.none _)
  | (with_reducible refine LeO.ite ?_ ?_)
  | (with_reducible refine LeO.bind ?_ (fun _ => ?_))
  | exact ih0 _ _ _ _ _
  | exact next_Step.mono _ _ _ _
  | exact session_May.mono _ _ _ _
  | exact LeO.none _
  | refine LeO.ite ?_ ?_
  | refine LeO.bind ?_ (fun _ => ?_)
theorem answer_Put.calls (k : Nat) (A0_0 : Option Addr) (c0_0 : Nat) (l0_0 : List (S66)) (a0_1 : Int) (A0_2 : Option Addr) (c0_2 : Nat) (l0_2 : List (S53)) (a1 : Int) (r1 : List (S66)) (r2 : Int) (r3 : List (S53)) (r4 : Int) (w : World) (hr0_0 : Kd.C k66 w A0_0 l0_0.length l0_0) (hc0_0 : l0_0.length ≤ c0_0) (hr0_2 : Kd.C k53 w A0_2 l0_2.length l0_2) (hc0_2 : l0_2.length ≤ c0_2) (h : answer_Put.f k l0_0 a0_1 l0_2 a1 = some (r1, r2, r3, r4)) (hG : GOK w) :
 Calls Tryz.prog 8 #[.agg #[.slice A0_0 l0_0.length c0_0, .int .i64 a0_1, .slice A0_2 l0_2.length c0_2], .int .i64 a1] w fun e w' => ∃ v0_ v2_ : Value, e = .returned (.tuple #[.agg #[v0_, .int .i64 r2, v2_], .int .i64 r4]) ∧ Kd.S k66 66 w' w.heap.size (fun _ => True) v0_ r1 ∧ Kd.R k53 53 w' w.heap.size (fun _ => True) v2_ r3 ∧ Below w.heap.size w w' := by
 have hu25 := Tryz.underlying25
 have hu49 := Tryz.underlying49
 have hu53 := Tryz.underlying53
 have HR0_0 := a_ hr0_0
 have HC0_0 := a_ hc0_0
 clear hr0_0 hc0_0
 have HR0_2 := a_ hr0_2
 have HC0_2 := a_ hc0_2
 clear hr0_2 hc0_2
 have HB := a_ (Below.refl w.heap.size w)
 have H := h; unfold answer_Put.f at H
 clear h
 have HC3 := a_ H
 clear H
 go_enter Tryz.func8, Tryz.ntmps8
 go_upto_region 1 with (first | ((with_reducible refine gate_dst (N := 2) rfl ?_); refine boxE_ 2 #[.slice A0_0 l0_0.length c0_0, .int .i64 a0_1, .slice A0_2 l0_2.length c0_2] 25 ?_; intro gb181 hg w4 hbox hb; have BK181 := a_ (hbox); have GW181 := a_ ((gE_ hg : w.heap.size ≤ gb181)); have GE181 := a_ ((gE_ hg : w.heap.size ≤ gb181)); replace HB := a_ (below_step hB_ hb); clear hb hbox hg) | ((with_reducible refine gate_dst (N := 4) rfl ?_); refine boxE_ 4 #[.slice none 0 0, .int .i64 0, .slice none 0 0] 25 ?_; intro gb182 hg w5 hbox hb; have BK182 := a_ (hbox); have GW182 := a_ ((gE_ hg : w.heap.size ≤ gb182)); have GE182 := a_ ((gE_ hg : w.heap.size ≤ gb182)); replace HB := a_ (below_step hC_ hb); have NB181_182 := a_ ((bL_ BK181.out hg : gb181 ≠ gb182)); have NB182_181 := a_ ((bG_ BK181.out hg : gb182 ≠ gb181)); replace BK181 := a_ (bB_ BK181.out hb); clear hb hbox hg))
 (try simp only [Act.put, List.setIfInBounds_toArray, List.set_cons_zero, List.set_cons_succ])
 go_cut [16] (fun v16 wc => ∃ (kq : Nat) (x16_2 : Bool), v16 = .bool x16_2 ∧ Aside0 (answer_Put.j0 kq a1 x16_2 l0_0 a0_1 l0_2 = some (r1, r2, r3, r4)) ∧ Aside0 (kq ≤ k) ∧ Aside0 (wc.heap[gb181]? = some (.cells #[(.slice A0_0 l0_0.length c0_0), .int .i64 a0_1, (.slice A0_2 l0_2.length c0_2)] 25 (0, 0))) ∧ Aside0 (wc.heap[gb182]? = some (.cells #[(.slice none 0 0), .int .i64 0, (.slice none 0 0)] 25 (0, 0))) ∧ Aside0 (Below w.heap.size w wc))
 case first =>
  have H := HC3.out
  clear HC3
  replace H := Option.bind_eq_some_iff.mp H
  obtain ⟨t183, A60, H⟩ := H
  try dsimp only at H
  have A6 := a_ A60
  clear A60
  by_cases c7 : t183 = true
  case neg =>
   replace c7 := Bool.eq_false_iff.mpr c7
   subst c7
   rw [if_neg (show ¬ (false = true) by decide)] at H
   have H' := a_ H
   clear H
   have hnb12 := NB181_182.out
   have hnc12 := NB182_181.out
   obtain ⟨hcz13_0, hcz13_1, hcz13_2, hfz13_0, hfz13_1, hfz13_2⟩ := bx3_ BK181.out
   go_wp2_with (first | ((with_reducible refine gate_callee (f := 21) rfl ?_); refine goesL_ (some 10) rfl rfl Tryz.func21 (by kernel_rfl) rfl #[.agg #[.slice A0_0 l0_0.length c0_0, .int .i64 a0_1, .slice A0_2 l0_2.length c0_2]] rfl hL_ ?_; (with_reducible refine (session_May.calls k _ _ l0_0 a0_1 _ _ l0_2 false _ ?side1 ?side2 ?side3 ?side4 A6.out (by first | exact hG | exact GOK.below hG hC_)).mono ?_); (case side1 => exact cB_ HR0_0.out); (case side2 => exact HC0_0.out); (case side3 => exact cB_ HR0_2.out); (case side4 => exact HC0_2.out); rintro e w14 ⟨rfl, hb⟩; refine ⟨_, rfl, ?_⟩; replace BK181 := a_ (bB_ BK181.out hb); replace BK182 := a_ (bB_ BK182.out hb); replace HB := a_ (below_step hC_ hb); (try clear hb); (try clear hb2); (try clear hk); (try clear hi)))
   go_meet
   case rel => exact ⟨_, (true), hW_, H', ⟨by first | omega | exact Nat.le_refl _⟩, ⟨(hK_ BK181.out)⟩, ⟨(hK_ BK182.out)⟩, ⟨hC_⟩⟩
  subst c7
  rw [if_pos rfl] at H
  replace H := Option.bind_eq_some_iff.mp H
  obtain ⟨t184, A80, H⟩ := H
  try dsimp only at H
  have A8 := a_ A80
  clear A80
  have H' := a_ H
  clear H
  have hnb9 := NB181_182.out
  have hnc9 := NB182_181.out
  obtain ⟨hcz10_0, hcz10_1, hcz10_2, hfz10_0, hfz10_1, hfz10_2⟩ := bx3_ BK181.out
  go_wp2_with (first | ((with_reducible refine gate_callee (f := 21) rfl ?_); refine goesL_ _ rfl rfl Tryz.func21 (by kernel_rfl) rfl #[.agg #[.slice A0_0 l0_0.length c0_0, .int .i64 a0_1, .slice A0_2 l0_2.length c0_2]] rfl hL_ ?_; (with_reducible refine (session_May.calls k _ _ l0_0 a0_1 _ _ l0_2 true _ ?side1 ?side2 ?side3 ?side4 A6.out (by first | exact hG | exact GOK.below hG hC_)).mono ?_); (case side1 => exact cB_ HR0_0.out); (case side2 => exact HC0_0.out); (case side3 => exact cB_ HR0_2.out); (case side4 => exact HC0_2.out); rintro e w11 ⟨rfl, hb⟩; refine ⟨_, rfl, ?_⟩; replace BK181 := a_ (bB_ BK181.out hb); replace BK182 := a_ (bB_ BK182.out hb); replace HB := a_ (below_step hC_ hb); (try clear hb); (try clear hb2); (try clear hk); (try clear hi)) | (go_at_call 22; (with_reducible refine (next_Mark.calls a1 t184 _ A8.out).mono ?_); rintro e w' ⟨rfl, ⟨nd, rfl⟩⟩))
  go_meet
  case rel => exact ⟨_, (!t184), hW_, H', ⟨by first | omega | exact Nat.le_refl _⟩, ⟨(hK_ BK181.out)⟩, ⟨(hK_ BK182.out)⟩, ⟨hC_⟩⟩
 case rest =>
  clear HC3
  try clear c1
  try clear c2
  try clear p2
  try clear c7
  try clear c8
  try clear c9
  try clear c12
  try clear hcz10_0
  try clear hcz10_1
  try clear hcz10_2
  try clear hcz13_0
  try clear hcz13_1
  try clear hcz13_2
  try clear hfz10_0
  try clear hfz10_1
  try clear hfz10_2
  try clear hfz13_0
  try clear hfz13_1
  try clear hfz13_2
  obtain ⟨kq, x16_2, rfl, HA, HJ2, BK181, BK182, HB⟩ := hcut
  cases kq with
  | zero => exact absurd HA.out (by simp [answer_Put.j0])
  | succ kj2 =>
   have H := HA.out
   clear HA
   simp only [answer_Put.j0] at H
   by_cases c15 : x16_2 = true
   case pos =>
    subst c15
    rw [if_pos rfl] at H
    simp only [Option.some.injEq, Prod.mk.injEq] at H
    obtain ⟨rfl, rfl, rfl, rfl⟩ := H
    have hnb16 := NB182_181.out
    have hnc16 := NB181_182.out
    obtain ⟨hcz17_0, hcz17_1, hcz17_2, hfz17_0, hfz17_1, hfz17_2⟩ := bx3_ BK182.out
    go_wp2
    refine bodyPost_ret (results_ct rfl _ _ gb182 25 #[.slice none 0 0, .int .i64 0, .slice none 0 0] (0, 0) _ rfl (bP_ (bP_ (bP_ (hK_ BK182.out)))) Tryz.underlying25 rfl (by kernel_rfl)) rfl ?_
    exact ⟨_, _, hV_, by first | exact Kd.S_nil _ _ _ _ _ | exact Kd.N_nil _ _ _ _ _ | exact Kd.V_nil _ _ _ _ _ | exact Kd.Q_nil _ _ _ _ _ | exact Kd.R_nil _ _ _ _ _, by first | exact Kd.R_nil _ _ _ _ _ | exact Kd.N_nil _ _ _ _ _ | exact Kd.V_nil _ _ _ _ _ | exact Kd.Q_nil _ _ _ _ _ | exact Kd.S_nil _ _ _ _ _, hC_⟩
   replace c15 := Bool.eq_false_iff.mpr c15
   subst c15
   rw [if_neg (show ¬ (false = true) by decide)] at H
   replace H := Option.bind_eq_some_iff.mp H
   obtain ⟨⟨t185, t186, t187⟩, A180, H⟩ := H
   try dsimp only at H
   have A18 := a_ A180
   clear A180
   by_cases c19 : t185 = 0
   case neg =>
    rw [if_neg c19] at H
    have c19b0 : (t185 == 0) = false := beq_eq_false_iff_ne.mpr c19
    have c19b1 : (t185 != 0) = true := bne_iff_ne.mpr c19
    simp only [Option.some.injEq, Prod.mk.injEq] at H
    obtain ⟨rfl, rfl, rfl, rfl⟩ := H
    have hnb43 := NB181_182.out
    have hnc43 := NB182_181.out
    obtain ⟨hcz44_0, hcz44_1, hcz44_2, hfz44_0, hfz44_1, hfz44_2⟩ := bx3_ BK181.out
    go_wp2_with (first | ((with_reducible refine gate_callee (f := 23) rfl ?_); refine goesL_ (some 20) rfl rfl Tryz.func23 (by kernel_rfl) rfl #[.agg #[.slice A0_0 l0_0.length c0_0, .int .i64 a0_1, .slice A0_2 l0_2.length c0_2]] rfl hL_ ?_; (with_reducible refine (next_Step.calls kj2 _ _ l0_0 a0_1 _ _ l0_2 t185 t186 t187 _ ?side1 ?side2 ?side3 ?side4 A18.out (by first | exact hG | exact GOK.below hG hC_)).mono ?_); (case side1 => exact cB_ HR0_0.out); (case side2 => exact HC0_0.out); (case side3 => exact cB_ HR0_2.out); (case side4 => exact HC0_2.out); rintro e w45 ⟨rfl, hb⟩; refine ⟨_, rfl, ?_⟩; replace BK181 := a_ (bB_ BK181.out hb); replace BK182 := a_ (bB_ BK182.out hb); replace HB := a_ (below_step hC_ hb); (try clear hb); (try clear hb2); (try clear hk); (try clear hi)) | ((with_reducible refine gate_dst (N := 6) rfl ?_); refine boxE_ 6 #[.int .i64 0, .int .i64 0] 49 ?_; intro gb188 hg w46 hbox hb; have BK188 := a_ (hbox); have GW188 := a_ ((gE_ hg : w.heap.size ≤ gb188)); have GE188 := a_ ((gE_ hg : w.heap.size ≤ gb188)); replace HB := a_ (below_step hC_ hb); have NB181_188 := a_ ((bL_ BK181.out hg : gb181 ≠ gb188)); have NB188_181 := a_ ((bG_ BK181.out hg : gb188 ≠ gb181)); replace BK181 := a_ (bB_ BK181.out hb); have NB182_188 := a_ ((bL_ BK182.out hg : gb182 ≠ gb188)); have NB188_182 := a_ ((bG_ BK182.out hg : gb188 ≠ gb182)); replace BK182 := a_ (bB_ BK182.out hb); clear hb hbox hg; have hnb47 := NB188_181.out; have hnc47 := NB181_188.out; have hnb48 := NB188_182.out; have hnc48 := NB182_188.out; obtain ⟨hcz49_0, hcz49_1, hfz49_0, hfz49_1⟩ := bx2_ BK188.out; obtain ⟨hcz50_0, hcz50_1, hcz50_2, hfz50_0, hfz50_1, hfz50_2⟩ := bx3_ BK182.out))
    refine bodyPost_ret (results_ct rfl _ _ gb182 25 #[.slice none 0 0, .int .i64 0, .slice none 0 0] (0, 0) _ rfl (bP_ (bP_ (bP_ (bF_ (bF_ (hK_ BK182.out) NB182_188.out) NB182_188.out)))) Tryz.underlying25 rfl (by kernel_rfl)) rfl ?_
    exact ⟨_, _, hV_, by first | exact Kd.S_nil _ _ _ _ _ | exact Kd.N_nil _ _ _ _ _ | exact Kd.V_nil _ _ _ _ _ | exact Kd.Q_nil _ _ _ _ _ | exact Kd.R_nil _ _ _ _ _, by first | exact Kd.R_nil _ _ _ _ _ | exact Kd.N_nil _ _ _ _ _ | exact Kd.V_nil _ _ _ _ _ | exact Kd.Q_nil _ _ _ _ _ | exact Kd.S_nil _ _ _ _ _, hC_⟩

   rw [if_pos c19] at H
   have c19b0 : (t185 == 0) = true := beq_iff_eq.mpr c19
   have c19b1 : (t185 != 0) = false := bne_eq_false_iff_eq.mpr c19
   clear c19
   replace H := Option.bind_eq_some_iff.mp H
   obtain ⟨⟨t189, t192, t193⟩, A200, H⟩ := H
   try dsimp only at H
   have A20 := a_ A200
   clear A200
   replace H := ifI_ H; obtain ⟨c21, H⟩ := H
   have LMc21 := a_ c21
   clear c21
   obtain ⟨y197, hy197⟩ : ∃ y_ : List (S53), y_ = (t193 ++ [(⟨t186, a1⟩ : S53)]) := ⟨_, rfl⟩
   replace H : (some (t189, t192, y197, 0)) = some (r1, r2, r3, r4) := by first | (rw [hy197]; with_reducible exact H) | (have H2_ := (Option.bind_some _ _).symm.trans H; rw [hy197]; with_reducible exact H2_) | (have H2_ := (Option.bind_some _ _).symm.trans H; with_reducible exact H2_) | with_reducible exact H | (rw [hy197]; exact H) | exact H
   have Ny197 := a_ hy197
   clear hy197
   simp only [Option.some.injEq, Prod.mk.injEq] at H
   obtain ⟨rfl, rfl, rfl, rfl⟩ := H
   have hnb22 := NB181_182.out
   have hnc22 := NB182_181.out
   obtain ⟨hcz23_0, hcz23_1, hcz23_2, hfz23_0, hfz23_1, hfz23_2⟩ := bx3_ BK181.out
   go_wp2_with (first | ((with_reducible refine gate_callee (f := 23) rfl ?_); refine goesL_ (some 20) rfl rfl Tryz.func23 (by kernel_rfl) rfl #[.agg #[.slice A0_0 l0_0.length c0_0, .int .i64 a0_1, .slice A0_2 l0_2.length c0_2]] rfl hL_ ?_; (with_reducible refine (next_Step.calls kj2 _ _ l0_0 a0_1 _ _ l0_2 t185 t186 t187 _ ?side1 ?side2 ?side3 ?side4 A18.out (by first | exact hG | exact GOK.below hG hC_)).mono ?_); (case side1 => exact cB_ HR0_0.out); (case side2 => exact HC0_0.out); (case side3 => exact cB_ HR0_2.out); (case side4 => exact HC0_2.out); rintro e w24 ⟨rfl, hb⟩; refine ⟨_, rfl, ?_⟩; replace BK181 := a_ (bB_ BK181.out hb); replace BK182 := a_ (bB_ BK182.out hb); replace HB := a_ (below_step hC_ hb); (try clear hb); (try clear hb2); (try clear hk); (try clear hi)) | ((with_reducible refine gate_dst (N := 6) rfl ?_); refine boxE_ 6 #[.int .i64 0, .int .i64 0] 49 ?_; intro gb188 hg w25 hbox hb; have BK188 := a_ (hbox); have GW188 := a_ ((gE_ hg : w.heap.size ≤ gb188)); have GE188 := a_ ((gE_ hg : w.heap.size ≤ gb188)); replace HB := a_ (below_step hC_ hb); have NB181_188 := a_ ((bL_ BK181.out hg : gb181 ≠ gb188)); have NB188_181 := a_ ((bG_ BK181.out hg : gb188 ≠ gb181)); replace BK181 := a_ (bB_ BK181.out hb); have NB182_188 := a_ ((bL_ BK182.out hg : gb182 ≠ gb188)); have NB188_182 := a_ ((bG_ BK182.out hg : gb188 ≠ gb182)); replace BK182 := a_ (bB_ BK182.out hb); clear hb hbox hg; have hnb26 := NB188_181.out; have hnc26 := NB181_188.out; have hnb27 := NB188_182.out; have hnc27 := NB182_188.out; obtain ⟨hcz28_0, hcz28_1, hfz28_0, hfz28_1⟩ := bx2_ BK188.out; obtain ⟨hcz29_0, hcz29_1, hcz29_2, hfz29_0, hfz29_1, hfz29_2⟩ := bx3_ BK181.out) | ((with_reducible refine gate_callee (f := 24) rfl ?_); refine goesL_ (some 28) rfl rfl Tryz.func24 (by kernel_rfl) rfl #[.agg #[.slice A0_0 l0_0.length c0_0, .int .i64 a0_1, .slice A0_2 l0_2.length c0_2]] rfl hL_ ?_; (with_reducible refine (session_Copy.calls _ _ l0_0 a0_1 _ _ l0_2 t189 t192 t193 _ ?side1 ?side2 ?side3 ?side4 A20.out).mono ?_); (case side1 => exact Kd.C_below HR0_0.out hC_); (case side2 => exact HC0_0.out); (case side3 => exact Kd.C_below HR0_2.out hC_); (case side4 => exact HC0_2.out); rintro e w30 ⟨v190, v194, rfl, ho0, ho1, hb⟩; refine ⟨_, rfl, ?_⟩; have HO191 := a_ (Kd.S_lower ho0 (below_size hC_)); have HO195 := a_ (Kd.R_lower ho1 (below_size hC_)); replace BK181 := a_ (blk_below (g := gb181) (o := .cells #[.slice A0_0 l0_0.length c0_0, .int .i64 a0_1, .slice A0_2 l0_2.length c0_2] 25 (0, 0)) (by (with_reducible repeat (first | refine blk_drewN ?_ _ | refine blk_drew ?_ | refine blk_alloc ?_ _)); exact (bF_ (bF_ (hK_ BK181.out) NB181_188.out) NB181_188.out)) hb); replace BK182 := a_ (blk_below (g := gb182) (o := .cells #[.slice none 0 0, .int .i64 0, .slice none 0 0] 25 (0, 0)) (by (with_reducible repeat (first | refine blk_drewN ?_ _ | refine blk_drew ?_ | refine blk_alloc ?_ _)); exact (bF_ (bF_ (hK_ BK182.out) NB182_188.out) NB182_188.out)) hb); replace BK188 := a_ (blk_below (g := gb188) (o := .cells #[.int .i64 t185, .int .i64 t186] 49 (0, 0)) (by (with_reducible repeat (first | refine blk_drewN ?_ _ | refine blk_drew ?_ | refine blk_alloc ?_ _)); exact (bP_ (bP_ (hK_ BK188.out)))) hb); replace HB := a_ (below_step hC_ hb); (try clear hb); (try clear hb2); (try clear hk); (try clear hi); (try clear ho0); (try clear ho1)) | ((with_reducible refine gate_dst (N := 8) rfl ?_); refine boxE_ 8 #[.slice none 0 0, .int .i64 0, .slice none 0 0] 25 ?_; intro gb196 hg w31 hbox hb; replace HO191 := a_ (Kd.S_below (by (with_reducible repeat (first | apply Kd.S_alloc | apply Kd.S_drewN | apply Kd.S_drew)); exact HO191.out) hb); replace HO195 := a_ (Kd.R_below (hR_ HO195.out) hb); have BK196 := a_ (hbox); have GW196 := a_ ((gE_ hg : w.heap.size ≤ gb196)); have GE196 := a_ ((gE_ hg : w.heap.size ≤ gb196)); replace HB := a_ (below_step hC_ hb); have NB181_196 := a_ ((bL_ BK181.out hg : gb181 ≠ gb196)); have NB196_181 := a_ ((bG_ BK181.out hg : gb196 ≠ gb181)); replace BK181 := a_ (bB_ BK181.out hb); have NB182_196 := a_ ((bL_ BK182.out hg : gb182 ≠ gb196)); have NB196_182 := a_ ((bG_ BK182.out hg : gb196 ≠ gb182)); replace BK182 := a_ (bB_ BK182.out hb); have NB188_196 := a_ ((bL_ BK188.out hg : gb188 ≠ gb196)); have NB196_188 := a_ ((bG_ BK188.out hg : gb196 ≠ gb188)); replace BK188 := a_ (bB_ BK188.out hb); clear hb hbox hg; obtain ⟨Ao32, co32, eo32⟩ := Kd.S_slice HO191.out; subst eo32; have hnb33 := NB196_181.out; have hnc33 := NB181_196.out; have hnb34 := NB196_182.out; have hnc34 := NB182_196.out; have hnb35 := NB196_188.out; have hnc35 := NB188_196.out; obtain ⟨hcz36_0, hcz36_1, hcz36_2, hfz36_0, hfz36_1, hfz36_2⟩ := bx3_ BK196.out; obtain ⟨Ao37, co37, eo37⟩ := Kd.R_slice HO195.out; subst eo37; obtain ⟨hcz38_0, hcz38_1, hfz38_0, hfz38_1⟩ := bx2_ BK188.out) | ((with_reducible refine gate_builtin (b := .append) (xs := #[.tmp 30, .tmp 35]) rfl ?_); at_builtin; refine Kd.R_append k53 (w0 := w) w.heap.size rfl (.tmp 30) (.tmp 35) 23 53 (.agg #[(.int .i64 0), (.int .i64 0)]) 16 rfl Tryz.underlying23 info53 rfl (by decide) (by omega) (.slice Ao37 t193.length co37) t193 (⟨t186, a1⟩ : S53) [.int .i64 t186, .int .i64 a1] (fun _ => True) (fun _ => False) rfl (by first | (go_simp; done) | (go_simp; rfl)) ?aP (fun _ hk => hk.elim) ?aF ?aO ?aB ?aS ?aL ?_; (case aP => exact k53_mkM _ _ _ (⟨t186, a1⟩ : S53)); (case aB => exact hC_); (case aF => exact (fun _ _ => trivial)); (case aO => exact (by (with_reducible repeat (first | apply Kd.R_alloc | apply Kd.R_drewN | apply Kd.R_drew)); exact Kd.R_mono (rF_ (rF_ (rF_ (Kd.R_types HO195.out BK196.out (by decide))))) (fun _ hk => trivial))); (case aS => exact (below_size hC_)); (case aL => have := LMc21.out; omega); intro v198 w39 ho hb hg hat; rw [← Ny197.out] at ho; replace BK181 := a_ (blk_grown (g := gb181) (o := .cells #[.slice A0_0 l0_0.length c0_0, .int .i64 a0_1, .slice A0_2 l0_2.length c0_2] 25 (0, 0)) (bF_ (bF_ (bF_ (hK_ BK181.out) NB181_196.out) NB181_196.out) NB181_196.out) hg (Kd.R_ne HO195.out BK181.out (by decide))); replace BK182 := a_ (blk_grown (g := gb182) (o := .cells #[.slice none 0 0, .int .i64 0, .slice none 0 0] 25 (0, 0)) (bF_ (bF_ (bF_ (hK_ BK182.out) NB182_196.out) NB182_196.out) NB182_196.out) hg (Kd.R_ne HO195.out BK182.out (by decide))); replace BK188 := a_ (blk_grown (g := gb188) (o := .cells #[.int .i64 t185, .int .i64 t186] 49 (0, 0)) (bF_ (bF_ (bF_ (hK_ BK188.out) NB188_196.out) NB188_196.out) NB188_196.out) hg (Kd.R_ne HO195.out BK188.out (by decide))); replace HO191 := a_ (Kd.S_over' (by (with_reducible repeat (first | apply Kd.S_alloc | apply Kd.S_drewN | apply Kd.S_drew)); exact (Kd.S_mono (sF_ (sF_ (sF_ (Kd.S_types HO191.out BK196.out (by decide))))) (fun _ h_ => h_.1))) (Kd.R_typed (by (with_reducible repeat (first | apply Kd.R_alloc | apply Kd.R_drewN | apply Kd.R_drew)); exact (Kd.R_mono (rF_ (rF_ (rF_ (Kd.R_types HO195.out BK196.out (by decide))))) (fun _ h_ => h_.1)))) (by decide) hg); replace BK196 := a_ (blk_grown (g := gb196) (o := .cells #[.slice Ao32 t189.length co32, .int .i64 t192, .slice Ao37 t193.length co37] 25 (0, 0)) (bP_ (bP_ (bP_ (hK_ BK196.out)))) hg (Kd.R_ne HO195.out BK196.out (by decide))); replace HB := a_ (hb); have HO199 := a_ (ho); clear HO195; clear ho hb hg hat; obtain ⟨Ao40, co40, eo40⟩ := Kd.R_slice HO199.out; subst eo40; obtain ⟨hcz41_0, hcz41_1, hcz41_2, hfz41_0, hfz41_1, hfz41_2⟩ := bx3_ BK196.out; obtain ⟨hcz42_0, hcz42_1, hcz42_2, hfz42_0, hfz42_1, hfz42_2⟩ := bx3_ BK182.out))
   refine bodyPost_ret (results_ct rfl _ _ gb182 25 #[.slice Ao32 t189.length co32, .int .i64 t192, .slice Ao40 y197.length co40] (0, 0) _ rfl (bP_ (bP_ (bP_ (bF_ (hK_ BK182.out) NB182_196.out)))) Tryz.underlying25 rfl (by kernel_rfl)) rfl ?_
   exact ⟨_, _, hV_, by (with_reducible repeat (first | apply Kd.S_alloc | apply Kd.S_drewN | apply Kd.S_drew)); exact Kd.S_mono (sF_ (sF_ (sF_ (Kd.S_far (p := ⟨gb196, 2, none⟩) (Kd.S_types (Kd.S_types HO191.out BK196.out (by decide)) BK182.out (by decide)) (fun _ hk => hk.1.2) (.slice Ao40 y197.length co40))))) (fun _ hk => trivial), by (with_reducible repeat (first | apply Kd.R_alloc | apply Kd.R_drewN | apply Kd.R_drew)); exact Kd.R_mono (rF_ (rF_ (rF_ (Kd.R_far (p := ⟨gb196, 2, none⟩) (Kd.R_types (Kd.R_types HO199.out BK196.out (by decide)) BK182.out (by decide)) (fun _ hk => hk.1.2) (.slice Ao40 y197.length co40))))) (fun _ hk => trivial), hC_⟩
def sleuthlaw0_Num.f (a0 : Int) : Option (Int) := some a0
theorem sleuthlaw0_Num.calls (a0 : Int) (r : Int) (w : World) (h : sleuthlaw0_Num.f a0 = some r) :
 Calls Tryz.prog 13 #[.int .i64 a0] w fun e w' => e = .returned (.int .i64 r) ∧ Drawn0 w w' := by
 have H : (some a0) = some r := h
 clear h
 obtain rfl := Option.some.inj H
 go_enter Tryz.func13, Tryz.ntmps13
 go_wp2
 go_ret
 exact ⟨by first | rfl | (simp; done) | (simp [*]; done), by repeat (first | exact Drawn0.refl _ | apply Drawn0.step)⟩

end Go.Proofs.YtbnljapgnfmmoaaGreatDoor.G
end
section
-- Laid by the session's own driver gp.py over the kit's printer. Not trusted: Lean checks it.
namespace Go.Proofs.YtbnljapgnfmmoaaGreatDoor.G
open Go.RowKit Go.Proofs.YtbnljapgnfmmoaaGreatDoorW.PrintWords Go.Proofs.YtbnljapgnfmmoaaGreatDoorW.PrintLast Go.Proofs.YtbnljapgnfmmoaaGreatDoorW.PrintMore
set_option maxHeartbeats 8000000
set_option maxRecDepth 100000
attribute [local go_sem] max2_int min2_int max_two min_two max_three min_three max_four min_four   -- for this text's walks alone
set_option linter.unusedVariables false
set_option linter.unusedSimpArgs false

def answer_Undo.f (k : Nat) (l0_0 : List (S66)) (a0_1 : Int) (l0_2 : List (S53)) : Option ((List (S66)) × Int × (List (S53)) × Int) := (session_May.f k l0_0 a0_1 l0_2).bind fun t202 => (if t202 = true then (if (l0_2.length : Int) = 0 then (some (([] : List (S66)), 0, ([] : List (S53)), 2201)) else ((session_Copy.f l0_0 a0_1 l0_2).bind fun bt203 => (if 0 ≤ (wrap64 ((bt203.2.2.length : Int) - 1)) then (if (wrap64 ((bt203.2.2.length : Int) - 1)) ≤ (bt203.2.2.length : Int) then (some (bt203.1, bt203.2.1, (bt203.2.2.take ((wrap64 ((bt203.2.2.length : Int) - 1)) : Int).toNat), 0)) else (none)) else (none)))) else (some (([] : List (S66)), 0, ([] : List (S53)), 2200)))
theorem answer_Undo.mono : ∀ a0 a1 a2 k, LeO (answer_Undo.f k a0 a1 a2) (answer_Undo.f (k + 1) a0 a1 a2) := by
 intro a0 a1 a2 k
 unfold answer_Undo.f
 repeat' first
  | (with_reducible exact session_May.mono _ _ _ _)
  | (with_reducible exact LeO.refl _)
  | (with_reducible exact LeO.none _)
  | (with_reducible refine LeO.ite ?_ ?_)
  | (with_reducible refine LeO.bind ?_ (fun _ => ?_))
  | exact session_May.mono _ _ _ _
  | exact LeO.none _
  | refine LeO.ite ?_ ?_
  | refine LeO.bind ?_ (fun _ => ?_)
theorem answer_Undo.calls (k : Nat) (A0_0 : Option Addr) (c0_0 : Nat) (l0_0 : List (S66)) (a0_1 : Int) (A0_2 : Option Addr) (c0_2 : Nat) (l0_2 : List (S53)) (r1 : List (S66)) (r2 : Int) (r3 : List (S53)) (r4 : Int) (w : World) (hr0_0 : Kd.C k66 w A0_0 l0_0.length l0_0) (hc0_0 : l0_0.length ≤ c0_0) (hr0_2 : Kd.C k53 w A0_2 l0_2.length l0_2) (hc0_2 : l0_2.length ≤ c0_2) (h : answer_Undo.f k l0_0 a0_1 l0_2 = some (r1, r2, r3, r4)) (hG : GOK w) :
 Calls Tryz.prog 10 #[.agg #[.slice A0_0 l0_0.length c0_0, .int .i64 a0_1, .slice A0_2 l0_2.length c0_2]] w fun e w' => ∃ v0_ v2_ : Value, e = .returned (.tuple #[.agg #[v0_, .int .i64 r2, v2_], .int .i64 r4]) ∧ Kd.S k66 66 w' w.heap.size (fun _ => True) v0_ r1 ∧ Kd.R k53 53 w' w.heap.size (fun _ => True) v2_ r3 ∧ Below w.heap.size w w' := by
 have hu25 := Tryz.underlying25
 have HR0_0 := a_ hr0_0
 have HC0_0 := a_ hc0_0
 clear hr0_0 hc0_0
 have HR0_2 := a_ hr0_2
 have HC0_2 := a_ hc0_2
 clear hr0_2 hc0_2
 have HB := a_ (Below.refl w.heap.size w)
 have H := h; unfold answer_Undo.f at H
 clear h
 replace H := Option.bind_eq_some_iff.mp H
 obtain ⟨t202, A20, H⟩ := H
 try dsimp only at H
 have A2 := a_ A20
 clear A20
 by_cases c3 : t202 = true
 case neg =>
  replace c3 := Bool.eq_false_iff.mpr c3
  subst c3
  rw [if_neg (show ¬ (false = true) by decide)] at H
  simp only [Option.some.injEq, Prod.mk.injEq] at H
  obtain ⟨rfl, rfl, rfl, rfl⟩ := H
  go_enter Tryz.func10, Tryz.ntmps10
  go_wp2_with (first | ((with_reducible refine gate_dst (N := 1) rfl ?_); refine boxE_ 1 #[.slice A0_0 l0_0.length c0_0, .int .i64 a0_1, .slice A0_2 l0_2.length c0_2] 25 ?_; intro gb200 hg w33 hbox hb; have BK200 := a_ (hbox); have GW200 := a_ ((gE_ hg : w.heap.size ≤ gb200)); have GE200 := a_ ((gE_ hg : w.heap.size ≤ gb200)); replace HB := a_ (below_step hB_ hb); clear hb hbox hg) | ((with_reducible refine gate_dst (N := 2) rfl ?_); refine boxE_ 2 #[.slice none 0 0, .int .i64 0, .slice none 0 0] 25 ?_; intro gb201 hg w34 hbox hb; have BK201 := a_ (hbox); have GW201 := a_ ((gE_ hg : w.heap.size ≤ gb201)); have GE201 := a_ ((gE_ hg : w.heap.size ≤ gb201)); replace HB := a_ (below_step hC_ hb); have NB200_201 := a_ ((bL_ BK200.out hg : gb200 ≠ gb201)); have NB201_200 := a_ ((bG_ BK200.out hg : gb201 ≠ gb200)); replace BK200 := a_ (bB_ BK200.out hb); clear hb hbox hg; have hnb35 := NB200_201.out; have hnc35 := NB201_200.out; obtain ⟨hcz36_0, hcz36_1, hcz36_2, hfz36_0, hfz36_1, hfz36_2⟩ := bx3_ BK200.out) | ((with_reducible refine gate_callee (f := 21) rfl ?_); refine goesL_ (some 7) rfl rfl Tryz.func21 (by kernel_rfl) rfl #[.agg #[.slice A0_0 l0_0.length c0_0, .int .i64 a0_1, .slice A0_2 l0_2.length c0_2]] rfl hL_ ?_; (with_reducible refine (session_May.calls k _ _ l0_0 a0_1 _ _ l0_2 false _ ?side1 ?side2 ?side3 ?side4 A2.out (by first | exact hG | exact GOK.below hG hC_)).mono ?_); (case side1 => exact cB_ HR0_0.out); (case side2 => exact HC0_0.out); (case side3 => exact cB_ HR0_2.out); (case side4 => exact HC0_2.out); rintro e w37 ⟨rfl, hb⟩; refine ⟨_, rfl, ?_⟩; replace BK200 := a_ (bB_ BK200.out hb); replace BK201 := a_ (bB_ BK201.out hb); replace HB := a_ (below_step hC_ hb); (try clear hb); (try clear hb2); (try clear hk); (try clear hi); obtain ⟨hcz38_0, hcz38_1, hcz38_2, hfz38_0, hfz38_1, hfz38_2⟩ := bx3_ BK201.out))
  refine bodyPost_ret (results_ct rfl _ _ gb201 25 #[.slice none 0 0, .int .i64 0, .slice none 0 0] (0, 0) _ rfl (bP_ (bP_ (bP_ (hK_ BK201.out)))) Tryz.underlying25 rfl (by kernel_rfl)) rfl ?_
  exact ⟨_, _, hV_, by first | exact Kd.S_nil _ _ _ _ _ | exact Kd.N_nil _ _ _ _ _ | exact Kd.V_nil _ _ _ _ _ | exact Kd.Q_nil _ _ _ _ _ | exact Kd.R_nil _ _ _ _ _, by first | exact Kd.R_nil _ _ _ _ _ | exact Kd.N_nil _ _ _ _ _ | exact Kd.V_nil _ _ _ _ _ | exact Kd.Q_nil _ _ _ _ _ | exact Kd.S_nil _ _ _ _ _, hC_⟩

 subst c3
 rw [if_pos rfl] at H
 by_cases c4 : (l0_2.length : Int) = 0
 case pos =>
  rw [if_pos c4] at H
  have c4b0 : ((l0_2.length : Int) == 0) = true := beq_iff_eq.mpr c4
  have c4b1 : ((l0_2.length : Int) != 0) = false := bne_eq_false_iff_eq.mpr c4
  clear c4
  simp only [Option.some.injEq, Prod.mk.injEq] at H
  obtain ⟨rfl, rfl, rfl, rfl⟩ := H
  go_enter Tryz.func10, Tryz.ntmps10
  go_wp2_with (first | ((with_reducible refine gate_dst (N := 1) rfl ?_); refine boxE_ 1 #[.slice A0_0 l0_0.length c0_0, .int .i64 a0_1, .slice A0_2 l0_2.length c0_2] 25 ?_; intro gb200 hg w5 hbox hb; have BK200 := a_ (hbox); have GW200 := a_ ((gE_ hg : w.heap.size ≤ gb200)); have GE200 := a_ ((gE_ hg : w.heap.size ≤ gb200)); replace HB := a_ (below_step hB_ hb); clear hb hbox hg) | ((with_reducible refine gate_dst (N := 2) rfl ?_); refine boxE_ 2 #[.slice none 0 0, .int .i64 0, .slice none 0 0] 25 ?_; intro gb201 hg w6 hbox hb; have BK201 := a_ (hbox); have GW201 := a_ ((gE_ hg : w.heap.size ≤ gb201)); have GE201 := a_ ((gE_ hg : w.heap.size ≤ gb201)); replace HB := a_ (below_step hC_ hb); have NB200_201 := a_ ((bL_ BK200.out hg : gb200 ≠ gb201)); have NB201_200 := a_ ((bG_ BK200.out hg : gb201 ≠ gb200)); replace BK200 := a_ (bB_ BK200.out hb); clear hb hbox hg; have hnb7 := NB200_201.out; have hnc7 := NB201_200.out; obtain ⟨hcz8_0, hcz8_1, hcz8_2, hfz8_0, hfz8_1, hfz8_2⟩ := bx3_ BK200.out) | ((with_reducible refine gate_callee (f := 21) rfl ?_); refine goesL_ (some 7) rfl rfl Tryz.func21 (by kernel_rfl) rfl #[.agg #[.slice A0_0 l0_0.length c0_0, .int .i64 a0_1, .slice A0_2 l0_2.length c0_2]] rfl hL_ ?_; (with_reducible refine (session_May.calls k _ _ l0_0 a0_1 _ _ l0_2 true _ ?side1 ?side2 ?side3 ?side4 A2.out (by first | exact hG | exact GOK.below hG hC_)).mono ?_); (case side1 => exact cB_ HR0_0.out); (case side2 => exact HC0_0.out); (case side3 => exact cB_ HR0_2.out); (case side4 => exact HC0_2.out); rintro e w9 ⟨rfl, hb⟩; refine ⟨_, rfl, ?_⟩; replace BK200 := a_ (bB_ BK200.out hb); replace BK201 := a_ (bB_ BK201.out hb); replace HB := a_ (below_step hC_ hb); (try clear hb); (try clear hb2); (try clear hk); (try clear hi); obtain ⟨hcz10_0, hcz10_1, hcz10_2, hfz10_0, hfz10_1, hfz10_2⟩ := bx3_ BK200.out; obtain ⟨hcz11_0, hcz11_1, hcz11_2, hfz11_0, hfz11_1, hfz11_2⟩ := bx3_ BK201.out))
  refine bodyPost_ret (results_ct rfl _ _ gb201 25 #[.slice none 0 0, .int .i64 0, .slice none 0 0] (0, 0) _ rfl (bP_ (bP_ (bP_ (hK_ BK201.out)))) Tryz.underlying25 rfl (by kernel_rfl)) rfl ?_
  exact ⟨_, _, hV_, by first | exact Kd.S_nil _ _ _ _ _ | exact Kd.N_nil _ _ _ _ _ | exact Kd.V_nil _ _ _ _ _ | exact Kd.Q_nil _ _ _ _ _ | exact Kd.R_nil _ _ _ _ _, by first | exact Kd.R_nil _ _ _ _ _ | exact Kd.N_nil _ _ _ _ _ | exact Kd.V_nil _ _ _ _ _ | exact Kd.Q_nil _ _ _ _ _ | exact Kd.S_nil _ _ _ _ _, hC_⟩
 rw [if_neg c4] at H
 have c4b0 : ((l0_2.length : Int) == 0) = false := beq_eq_false_iff_ne.mpr c4
 have c4b1 : ((l0_2.length : Int) != 0) = true := bne_iff_ne.mpr c4
 have c4b2 : ¬ (l0_2 = []) := fun h_ => c4 (by rw [h_]; rfl)
 replace H := Option.bind_eq_some_iff.mp H
 obtain ⟨⟨t203, t206, t207⟩, A120, H⟩ := H
 try dsimp only at H
 have A12 := a_ A120
 clear A120
 obtain ⟨ji13, hji13⟩ : ∃ j_ : Int, (wrap64 ((t207.length : Int) - 1)) = j_ := ⟨_, rfl⟩
 replace H : (if 0 ≤ (ji13) then (if (ji13) ≤ (t207.length : Int) then (some (t203, t206, (t207.take ((ji13) : Int).toNat), 0)) else (none)) else (none)) = some (r1, r2, r3, r4) := by first | (rw [hji13] at H; exact H) | (simp only [hji13] at H ⊢; exact H)
 (try rw [hji13] at A2)
 (try rw [hji13] at A12)
 have hji13w : (IntKind.i64.wrap ((t207.length : Int) - 1)) = ji13 := (i64_w _).trans hji13
 replace H := ifI_ H; obtain ⟨c14, H⟩ := H
 have c14b0 := eq_true c14
 have c14b1 : decide (0 ≤ (ji13)) = true := decide_eq_true c14
 clear c14
 replace H := ifI_ H; obtain ⟨c15, H⟩ := H
 have c15b0 := eq_true c15
 have c15b1 : decide ((ji13) ≤ (t207.length : Int)) = true := decide_eq_true c15
 clear c15
 obtain ⟨y211, hy211⟩ : ∃ y_ : List (S53), y_ = (t207.take ((ji13) : Int).toNat) := ⟨_, rfl⟩
 replace H : (some (t203, t206, y211, 0)) = some (r1, r2, r3, r4) := by first | (rw [hy211]; with_reducible exact H) | (have H2_ := (Option.bind_some _ _).symm.trans H; rw [hy211]; with_reducible exact H2_) | (have H2_ := (Option.bind_some _ _).symm.trans H; with_reducible exact H2_) | with_reducible exact H | (rw [hy211]; exact H) | exact H
 have Ny211 := a_ hy211
 clear hy211
 simp only [Option.some.injEq, Prod.mk.injEq] at H
 obtain ⟨rfl, rfl, rfl, rfl⟩ := H
 go_enter Tryz.func10, Tryz.ntmps10
 go_wp2_with (first | ((with_reducible refine gate_dst (N := 1) rfl ?_); refine boxE_ 1 #[.slice A0_0 l0_0.length c0_0, .int .i64 a0_1, .slice A0_2 l0_2.length c0_2] 25 ?_; intro gb200 hg w16 hbox hb; have BK200 := a_ (hbox); have GW200 := a_ ((gE_ hg : w.heap.size ≤ gb200)); have GE200 := a_ ((gE_ hg : w.heap.size ≤ gb200)); replace HB := a_ (below_step hB_ hb); clear hb hbox hg) | ((with_reducible refine gate_dst (N := 2) rfl ?_); refine boxE_ 2 #[.slice none 0 0, .int .i64 0, .slice none 0 0] 25 ?_; intro gb201 hg w17 hbox hb; have BK201 := a_ (hbox); have GW201 := a_ ((gE_ hg : w.heap.size ≤ gb201)); have GE201 := a_ ((gE_ hg : w.heap.size ≤ gb201)); replace HB := a_ (below_step hC_ hb); have NB200_201 := a_ ((bL_ BK200.out hg : gb200 ≠ gb201)); have NB201_200 := a_ ((bG_ BK200.out hg : gb201 ≠ gb200)); replace BK200 := a_ (bB_ BK200.out hb); clear hb hbox hg; have hnb18 := NB200_201.out; have hnc18 := NB201_200.out; obtain ⟨hcz19_0, hcz19_1, hcz19_2, hfz19_0, hfz19_1, hfz19_2⟩ := bx3_ BK200.out) | ((with_reducible refine gate_callee (f := 21) rfl ?_); refine goesL_ (some 7) rfl rfl Tryz.func21 (by kernel_rfl) rfl #[.agg #[.slice A0_0 l0_0.length c0_0, .int .i64 a0_1, .slice A0_2 l0_2.length c0_2]] rfl hL_ ?_; (with_reducible refine (session_May.calls k _ _ l0_0 a0_1 _ _ l0_2 true _ ?side1 ?side2 ?side3 ?side4 A2.out (by first | exact hG | exact GOK.below hG hC_)).mono ?_); (case side1 => exact cB_ HR0_0.out); (case side2 => exact HC0_0.out); (case side3 => exact cB_ HR0_2.out); (case side4 => exact HC0_2.out); rintro e w20 ⟨rfl, hb⟩; refine ⟨_, rfl, ?_⟩; replace BK200 := a_ (bB_ BK200.out hb); replace BK201 := a_ (bB_ BK201.out hb); replace HB := a_ (below_step hC_ hb); (try clear hb); (try clear hb2); (try clear hk); (try clear hi); obtain ⟨hcz21_0, hcz21_1, hcz21_2, hfz21_0, hfz21_1, hfz21_2⟩ := bx3_ BK200.out) | ((with_reducible refine gate_callee (f := 24) rfl ?_); refine goesL_ (some 17) rfl rfl Tryz.func24 (by kernel_rfl) rfl #[.agg #[.slice A0_0 l0_0.length c0_0, .int .i64 a0_1, .slice A0_2 l0_2.length c0_2]] rfl hL_ ?_; (with_reducible refine (session_Copy.calls _ _ l0_0 a0_1 _ _ l0_2 t203 t206 t207 _ ?side1 ?side2 ?side3 ?side4 A12.out).mono ?_); (case side1 => exact cB_ HR0_0.out); (case side2 => exact HC0_0.out); (case side3 => exact cB_ HR0_2.out); (case side4 => exact HC0_2.out); rintro e w22 ⟨v204, v208, rfl, ho0, ho1, hb⟩; refine ⟨_, rfl, ?_⟩; have HO205 := a_ (Kd.S_lower ho0 (below_size hC_)); have HO209 := a_ (Kd.R_lower ho1 (below_size hC_)); replace BK200 := a_ (bB_ BK200.out hb); replace BK201 := a_ (bB_ BK201.out hb); replace HB := a_ (below_step hC_ hb); (try clear hb); (try clear hb2); (try clear hk); (try clear hi); (try clear ho0); (try clear ho1)) | ((with_reducible refine gate_dst (N := 4) rfl ?_); refine boxE_ 4 #[.slice none 0 0, .int .i64 0, .slice none 0 0] 25 ?_; intro gb210 hg w23 hbox hb; replace HO205 := a_ (Kd.S_below (by (with_reducible repeat (first | apply Kd.S_alloc | apply Kd.S_drewN | apply Kd.S_drew)); exact HO205.out) hb); replace HO209 := a_ (Kd.R_below (hR_ HO209.out) hb); have BK210 := a_ (hbox); have GW210 := a_ ((gE_ hg : w.heap.size ≤ gb210)); have GE210 := a_ ((gE_ hg : w.heap.size ≤ gb210)); replace HB := a_ (below_step hC_ hb); have NB200_210 := a_ ((bL_ BK200.out hg : gb200 ≠ gb210)); have NB210_200 := a_ ((bG_ BK200.out hg : gb210 ≠ gb200)); replace BK200 := a_ (bB_ BK200.out hb); have NB201_210 := a_ ((bL_ BK201.out hg : gb201 ≠ gb210)); have NB210_201 := a_ ((bG_ BK201.out hg : gb210 ≠ gb201)); replace BK201 := a_ (bB_ BK201.out hb); clear hb hbox hg; obtain ⟨Ao24, co24, eo24⟩ := Kd.S_slice HO205.out; subst eo24; have hnb25 := NB210_200.out; have hnc25 := NB200_210.out; have hnb26 := NB210_201.out; have hnc26 := NB201_210.out; obtain ⟨hcz27_0, hcz27_1, hcz27_2, hfz27_0, hfz27_1, hfz27_2⟩ := bx3_ BK210.out; obtain ⟨Ao28, co28, eo28⟩ := Kd.R_slice HO209.out; subst eo28) | ((with_reducible refine gate_store (t := 25) (p := 4) rfl ?_); refine store_event (t := 25) (p := 4) (v := ?vo_w29) (w1 := (((w23.setCell ⟨gb210, 0, none⟩ (.slice Ao24 t203.length co24)).setCell ⟨gb210, 1, none⟩ (.int .i64 t206)).setCell ⟨gb210, 2, none⟩ (.slice Ao28 t207.length co28))) ?hg ?ho ?hn ?hr ?_; (case ho => rfl); (case hg => rfl); (case hn => rfl); (case hr => first | (go_simp; done) | (go_simp; rfl)); intro w29 hw; replace HO205 : Aside0 (Kd.S k66 66 w29 w.heap.size (fun _ => True) (.slice Ao24 t203.length co24) t203) := ⟨(by rw [hw]; exact (by (with_reducible repeat (first | apply Kd.S_alloc | apply Kd.S_drewN | apply Kd.S_drew)); exact Kd.S_mono (sF_ (sF_ (sF_ (Kd.S_types HO205.out BK210.out (by decide))))) (fun _ hk => trivial)))⟩; replace HO209 : Aside0 (Kd.R k53 53 w29 w.heap.size (fun _ => True) (.slice Ao28 t207.length co28) t207) := ⟨(by rw [hw]; exact (by (with_reducible repeat (first | apply Kd.R_alloc | apply Kd.R_drewN | apply Kd.R_drew)); exact Kd.R_mono (rF_ (rF_ (rF_ (Kd.R_types HO209.out BK210.out (by decide))))) (fun _ hk => trivial)))⟩; replace BK200 : Aside0 (w29.heap[gb200]? = some (.cells #[.slice A0_0 l0_0.length c0_0, .int .i64 a0_1, .slice A0_2 l0_2.length c0_2] 25 (0, 0))) := ⟨(by rw [hw]; exact (bF_ (bF_ (bF_ (hK_ BK200.out) NB200_210.out) NB200_210.out) NB200_210.out))⟩; replace BK201 : Aside0 (w29.heap[gb201]? = some (.cells #[.slice none 0 0, .int .i64 0, .slice none 0 0] 25 (0, 0))) := ⟨(by rw [hw]; exact (bF_ (bF_ (bF_ (hK_ BK201.out) NB201_210.out) NB201_210.out) NB201_210.out))⟩; replace BK210 : Aside0 (w29.heap[gb210]? = some (.cells #[.slice Ao24 t203.length co24, .int .i64 t206, .slice Ao28 t207.length co28] 25 (0, 0))) := ⟨(by rw [hw]; exact (bP_ (bP_ (bP_ (hK_ BK210.out)))))⟩; replace HB : Aside0 (Below w.heap.size w w29) := ⟨(by rw [hw]; exact hC_)⟩; clear hw; obtain ⟨hcz30_0, hcz30_1, hcz30_2, hfz30_0, hfz30_1, hfz30_2⟩ := bx3_ BK210.out; have q31 : ((ji13) : Int) ≤ ((t207.length : Int) : Int) := of_decide_eq_true hA_; obtain ⟨i031, hi031, _, hsz31, _⟩ := info_parts info53; have hcut31 := cut_to (P := Tryz.prog) 23 53 .i64 Tryz.underlying23 hi031 Ao28 t207.length co28 (ji13) (of_decide_eq_true hA_) q31 (Kd.R_reads' HO209.out).2.1; have hr31 := Kd.R_take (m := ((ji13) : Int).toNat) HO209.out (by omega); have hy31 : y211.length = ((ji13) : Int).toNat := (by rw [Ny211.out, List.length_take]; omega); rw [← Ny211.out] at hr31; rw [← hy31] at hr31 hcut31; clear hy31 hi031 hsz31 HO209; have HO213 := a_ hr31; clear hr31; replace q31 := eq_true q31; obtain ⟨hcz32_0, hcz32_1, hcz32_2, hfz32_0, hfz32_1, hfz32_2⟩ := bx3_ BK201.out))
 refine bodyPost_ret (results_ct rfl _ _ gb201 25 #[.slice Ao24 t203.length co24, .int .i64 t206, .slice Ao28 y211.length co28] (0, 0) _ rfl (bP_ (bP_ (bP_ (bF_ (hK_ BK201.out) NB201_210.out)))) Tryz.underlying25 rfl (by kernel_rfl)) rfl ?_
 exact ⟨_, _, by first | rfl | (simp [errW_none, errW_some] <;> rfl) | (simp only [← hji13]; first | rfl | (simp [errW_none, errW_some] <;> rfl)) | (simp [*, errW_none, errW_some] <;> rfl), by (with_reducible repeat (first | apply Kd.S_alloc | apply Kd.S_drewN | apply Kd.S_drew)); exact Kd.S_mono (sF_ (sF_ (sF_ (Kd.S_far (p := ⟨gb210, 2, none⟩) (Kd.S_types (Kd.S_types HO205.out BK210.out (by decide)) BK201.out (by decide)) (fun _ hk => hk.1.2) (.slice Ao28 y211.length co28))))) (fun _ hk => trivial), by (with_reducible repeat (first | apply Kd.R_alloc | apply Kd.R_drewN | apply Kd.R_drew)); exact Kd.R_mono (rF_ (rF_ (rF_ (Kd.R_far (p := ⟨gb210, 2, none⟩) (Kd.R_types (Kd.R_types HO213.out BK210.out (by decide)) BK201.out (by decide)) (fun _ hk => hk.1.2) (.slice Ao28 y211.length co28))))) (fun _ hk => trivial), hC_⟩
def sleuthlaw0_SameTexts.l0 : Nat → List ByteArray → List ByteArray → Int → Option (Bool)
 | 0, _, _, _ => none
 | k + 1, x0, x1, x5 => if x5 < (x0.length : Int) then (if 0 ≤ x5 then (if x5 < (x1.length : Int) then (if (rdOf ByteArray.empty x0 x5).toList = (rdOf ByteArray.empty x1 x5).toList then (sleuthlaw0_SameTexts.l0 k x0 x1 (wrap64 (x5 + 1))) else (some false)) else (none)) else (none)) else (some true)
def sleuthlaw0_SameTexts.f (k : Nat) (l0 : List ByteArray) (l1 : List ByteArray) : Option (Bool) := if (l0.length : Int) = (l1.length : Int) then (sleuthlaw0_SameTexts.l0 k l0 l1 0) else (some false)
theorem sleuthlaw0_SameTexts.mono_l : ∀ k, (∀ y0 y1 y2, LeO (sleuthlaw0_SameTexts.l0 k y0 y1 y2) (sleuthlaw0_SameTexts.l0 (k + 1) y0 y1 y2))
 | 0 => fun _ _ _ r h => by simp [sleuthlaw0_SameTexts.l0] at h
 | k + 1 => by
  have ih0 := sleuthlaw0_SameTexts.mono_l k
  · intro y0 y1 y2
    unfold sleuthlaw0_SameTexts.l0
    repeat' first
    | (with_reducible exact ih0 _ _ _)
    | (with_reducible exact LeO.refl _)
    | (with_reducible exact LeO.none _)
    | (with_reducible refine LeO.ite ?_ ?_)
    | (with_reducible refine LeO.bind ?_ (fun _ => ?_))
    | exact ih0 _ _ _
    | exact LeO.none _
    | refine LeO.ite ?_ ?_
    | refine LeO.bind ?_ (fun _ => ?_)
theorem sleuthlaw0_SameTexts.mono : ∀ a0 a1 k, LeO (sleuthlaw0_SameTexts.f k a0 a1) (sleuthlaw0_SameTexts.f (k + 1) a0 a1) := by
 intro a0 a1 k
 have ih0 := sleuthlaw0_SameTexts.mono_l k
 unfold sleuthlaw0_SameTexts.f
 repeat' first
  | (with_reducible exact ih0 _ _ _)
  | (with_reducible exact LeO.refl _)
  | (with_reducible exact LeO.none _)
  | (with_reducible refine LeO.ite ?_ ?_)
  | (with_reducible refine LeO.bind ?_ (fun _ => ?_))
  | exact ih0 _ _ _
  | exact LeO.none _
  | refine LeO.ite ?_ ?_
  | refine LeO.bind ?_ (fun _ => ?_)
theorem sleuthlaw0_SameTexts.calls (k : Nat) (A0 : Option Addr) (c0 : Nat) (l0 : List ByteArray) (A1 : Option Addr) (c1 : Nat) (l1 : List ByteArray) (r : Bool) (w : World) (hr0 : Kd.C Kd.string w A0 l0.length l0) (hc0 : l0.length ≤ c0) (hr1 : Kd.C Kd.string w A1 l1.length l1) (hc1 : l1.length ≤ c1) (h : sleuthlaw0_SameTexts.f k l0 l1 = some r) :
 Calls Tryz.prog 52 #[.slice A0 l0.length c0, .slice A1 l1.length c1] w fun e w' => e = .returned (.bool r) ∧ Drawn0 w w' := by
 have HR0 := a_ hr0
 have HC0 := a_ hc0
 clear hr0 hc0
 have HR1 := a_ hr1
 have HC1 := a_ hc1
 clear hr1 hc1
 have H := h; unfold sleuthlaw0_SameTexts.f at H
 clear h
 by_cases c3 : (l0.length : Int) = (l1.length : Int)
 case neg =>
  rw [if_neg c3] at H
  have c3b0 : ((l0.length : Int) == (l1.length : Int)) = false := beq_eq_false_iff_ne.mpr c3
  have c3b1 : ((l0.length : Int) != (l1.length : Int)) = true := bne_iff_ne.mpr c3
  have c3b2 : (l0.length == l1.length) = false := by first | simpa using c3 | (simp at c3 ⊢; omega)
  obtain rfl := Option.some.inj H
  go_enter Tryz.func52, Tryz.ntmps52
  go_wp2
  repeat (go_quiet (fail); try go_wp2)
  go_ret
  exact ⟨by first | rfl | (simp; done) | (simp [*]; done), by repeat (first | exact Drawn0.refl _ | apply Drawn0.step)⟩

 rw [if_pos c3] at H
 have c3b0 : ((l0.length : Int) == (l1.length : Int)) = true := beq_iff_eq.mpr c3
 have c3b1 : ((l0.length : Int) != (l1.length : Int)) = false := bne_eq_false_iff_eq.mpr c3
 have c3b2 : (l0.length == l1.length) = true := by first | simpa using c3 | (simp at c3 ⊢; omega)
 clear c3
 have H' := a_ H
 clear H
 go_enter Tryz.func52, Tryz.ntmps52
 go_wp2
 repeat (go_quiet (fail); try go_wp2)
 go_loopg [5] k (fun kq v5 w' => ∃ (x5_1 : Int), v5 = .int .i64 x5_1 ∧ Aside0 (sleuthlaw0_SameTexts.l0 kq l0 l1 x5_1 = some r) ∧ Aside0 (kq ≤ k) ∧ Drawn0 w w')
 case atStart => exact ⟨(0), hW_, H', ⟨Nat.le_refl _⟩, by repeat (first | exact Drawn0.refl _ | apply Drawn0.step)⟩
 case round =>
  clear H'
  try clear c1
  try clear p2
  try clear c3
  try clear c3b0
  try clear c3b1
  try clear c3b2
  obtain ⟨x5_1, rfl, HA, HK1, ⟨m1, rfl⟩⟩ := hrel
  cases gk with
  | zero => exact absurd HA.out (by simp [sleuthlaw0_SameTexts.l0])
  | succ k1 =>
   have H := HA.out
   clear HA
   simp only [sleuthlaw0_SameTexts.l0] at H
   by_cases c4 : x5_1 < (l0.length : Int)
   case neg =>
    rw [if_neg c4] at H
    have c4b0 : decide (x5_1 < (l0.length : Int)) = false := decide_eq_false c4
    clear c4
    obtain rfl := Option.some.inj H
    go_wp2
    repeat (go_quiet (fail); try go_wp2)
    go_ret
    exact ⟨by first | rfl | (simp; done) | (simp [*]; done), by repeat (first | exact Drawn0.refl _ | apply Drawn0.step)⟩
   rw [if_pos c4] at H
   have c4b0 : decide (x5_1 < (l0.length : Int)) = true := decide_eq_true c4
   clear c4
   replace H := ifI_ H; obtain ⟨c5, H⟩ := H
   have c5b0 : decide (0 ≤ x5_1) = true := decide_eq_true c5
   clear c5
   replace H := ifI_ H; obtain ⟨c6, H⟩ := H
   have c6b0 : decide (x5_1 < (l1.length : Int)) = true := decide_eq_true c6
   clear c6
   by_cases c7 : (rdOf ByteArray.empty l0 x5_1).toList = (rdOf ByteArray.empty l1 x5_1).toList
   case neg =>
    rw [if_neg c7] at H
    have c7b0 : ((rdOf ByteArray.empty l0 x5_1).toList == (rdOf ByteArray.empty l1 x5_1).toList) = false := beq_eq_false_iff_ne.mpr c7
    have c7b1 : ((rdOf ByteArray.empty l0 x5_1).toList != (rdOf ByteArray.empty l1 x5_1).toList) = true := bne_iff_ne.mpr c7
    obtain rfl := Option.some.inj H
    have p214 : 0 ≤ (x5_1 : Int) := of_decide_eq_true hA_
    have q214 : x5_1 < (l0.length : Int) := of_decide_eq_true hA_
    obtain ⟨ad214, e214, hx214_0⟩ := Kd.at_string HR0.out x5_1 p214 q214
    cases e214
    replace p214 := eq_true p214
    replace q214 := eq_true q214
    have p215 : 0 ≤ (x5_1 : Int) := of_decide_eq_true hA_
    have q215 : x5_1 < (l1.length : Int) := of_decide_eq_true hA_
    obtain ⟨ad215, e215, hx215_0⟩ := Kd.at_string HR1.out x5_1 p215 q215
    cases e215
    replace p215 := eq_true p215
    replace q215 := eq_true q215
    go_wp2
    repeat (go_quiet (fail); try go_wp2)
    go_ret
    exact ⟨by first | rfl | (simp; done) | (simp [*]; done), by repeat (first | exact Drawn0.refl _ | apply Drawn0.step)⟩
   rw [if_pos c7] at H
   have c7b0 : ((rdOf ByteArray.empty l0 x5_1).toList == (rdOf ByteArray.empty l1 x5_1).toList) = true := beq_iff_eq.mpr c7
   have c7b1 : ((rdOf ByteArray.empty l0 x5_1).toList != (rdOf ByteArray.empty l1 x5_1).toList) = false := bne_eq_false_iff_eq.mpr c7
   clear c7
   have H' := a_ H
   clear H
   have p214 : 0 ≤ (x5_1 : Int) := of_decide_eq_true hA_
   have q214 : x5_1 < (l0.length : Int) := of_decide_eq_true hA_
   obtain ⟨ad214, e214, hx214_0⟩ := Kd.at_string HR0.out x5_1 p214 q214
   cases e214
   replace p214 := eq_true p214
   replace q214 := eq_true q214
   have p215 : 0 ≤ (x5_1 : Int) := of_decide_eq_true hA_
   have q215 : x5_1 < (l1.length : Int) := of_decide_eq_true hA_
   obtain ⟨ad215, e215, hx215_0⟩ := Kd.at_string HR1.out x5_1 p215 q215
   cases e215
   replace p215 := eq_true p215
   replace q215 := eq_true q215
   go_wp2
   repeat (go_quiet (fail); try go_wp2)
   go_roundg k1
   case measure => have := HK1.out; omega
   case rel => exact ⟨(wrap64 (x5_1 + 1)), hW_, H', ⟨by have := HK1.out; omega⟩, by repeat (first | exact Drawn0.refl _ | apply Drawn0.step)⟩
end Go.Proofs.YtbnljapgnfmmoaaGreatDoor.G
end
section
-- Laid by the session's own driver gp.py over the kit's printer. Not trusted: Lean checks it.
namespace Go.Proofs.YtbnljapgnfmmoaaGreatDoor.G
open Go.RowKit Go.Proofs.YtbnljapgnfmmoaaGreatDoorW.PrintWords Go.Proofs.YtbnljapgnfmmoaaGreatDoorW.PrintLast Go.Proofs.YtbnljapgnfmmoaaGreatDoorW.PrintMore
attribute [local go_sem] max2_int min2_int max_two min_two max_three min_three max_four min_four   -- for this text's walks alone
set_option linter.unusedVariables false
set_option linter.unusedSimpArgs false

theorem eqA53 (d : Nat) (w : World) (x0 y0 : Int) (x1 y1 : Int) :
 (Op.equalIn (d + 2) 53 (.agg #[.int .i64 x0, .int .i64 x1]) (.agg #[.int .i64 y0, .int .i64 y1])).run Tryz.prog w = .ok (x0 == y0 && (x1 == y1)) w := by
 refine eqA_of Tryz.underlying53 (by kernel_rfl) ?_
 refine eqf_cons (by rfl) (by go_simp; rfl) (by go_simp; rfl) (by go_simp) ?_
 exact eqf_last (by rfl) (by go_simp; rfl) (by go_simp; rfl) (by go_simp)
end Go.Proofs.YtbnljapgnfmmoaaGreatDoor.G
end
section
-- Laid by the session's own driver gp.py over the kit's printer. Not trusted: Lean checks it.
namespace Go.Proofs.YtbnljapgnfmmoaaGreatDoor.G
open Go.RowKit Go.Proofs.YtbnljapgnfmmoaaGreatDoorW.PrintWords Go.Proofs.YtbnljapgnfmmoaaGreatDoorW.PrintLast Go.Proofs.YtbnljapgnfmmoaaGreatDoorW.PrintMore
set_option maxHeartbeats 8000000
set_option maxRecDepth 100000
attribute [local go_sem] max2_int min2_int max_two min_two max_three min_three max_four min_four   -- for this text's walks alone
set_option linter.unusedVariables false
set_option linter.unusedSimpArgs false

def sleuthlaw0_SameNode.f (k : Nat) (a0_0 : Int) (a0_1 : Int) (l0_2 : List ByteArray) (a0_3 : ByteArray) (a1_0 : Int) (a1_1 : Int) (l1_2 : List ByteArray) (a1_3 : ByteArray) : Option (Bool) := if a0_0 = a1_0 then (if a0_1 = a1_1 then ((sleuthlaw0_SameTexts.f k l0_2 l1_2).bind fun t218 => (if t218 = true then (some (a0_3.toList == a1_3.toList)) else (some false))) else (some false)) else (some false)
theorem sleuthlaw0_SameNode.mono : ∀ a0 a1 a2 a3 a4 a5 a6 a7 k, LeO (sleuthlaw0_SameNode.f k a0 a1 a2 a3 a4 a5 a6 a7) (sleuthlaw0_SameNode.f (k + 1) a0 a1 a2 a3 a4 a5 a6 a7) := by
 intro a0 a1 a2 a3 a4 a5 a6 a7 k
 unfold sleuthlaw0_SameNode.f
 repeat' first
  | (with_reducible exact sleuthlaw0_SameTexts.mono _ _ _)
  | (with_reducible exact LeO.refl _)
  | (with_reducible exact LeO.none _)
  | (with_reducible refine LeO.ite ?_ ?_)
  | (with_reducible refine LeO.bind ?_ (fun _ => ?_))
  | exact sleuthlaw0_SameTexts.mono _ _ _
  | exact LeO.none _
  | refine LeO.ite ?_ ?_
  | refine LeO.bind ?_ (fun _ => ?_)
theorem sleuthlaw0_SameNode.calls (k : Nat) (a0_0 : Int) (a0_1 : Int) (A0_2 : Option Addr) (c0_2 : Nat) (l0_2 : List ByteArray) (a0_3 : ByteArray) (a1_0 : Int) (a1_1 : Int) (A1_2 : Option Addr) (c1_2 : Nat) (l1_2 : List ByteArray) (a1_3 : ByteArray) (r : Bool) (w : World) (hr0_2 : Kd.C Kd.string w A0_2 l0_2.length l0_2) (hc0_2 : l0_2.length ≤ c0_2) (hr1_2 : Kd.C Kd.string w A1_2 l1_2.length l1_2) (hc1_2 : l1_2.length ≤ c1_2) (h : sleuthlaw0_SameNode.f k a0_0 a0_1 l0_2 a0_3 a1_0 a1_1 l1_2 a1_3 = some r) :
 Calls Tryz.prog 44 #[.agg #[.int .i64 a0_0, .int .i64 a0_1, .slice A0_2 l0_2.length c0_2, .string a0_3], .agg #[.int .i64 a1_0, .int .i64 a1_1, .slice A1_2 l1_2.length c1_2, .string a1_3]] w fun e w' => e = .returned (.bool r) ∧ Below w.heap.size w w' := by
 have hu66 := Tryz.underlying66
 have HR0_2 := a_ hr0_2
 have HC0_2 := a_ hc0_2
 clear hr0_2 hc0_2
 have HR1_2 := a_ hr1_2
 have HC1_2 := a_ hc1_2
 clear hr1_2 hc1_2
 have HB := a_ (Below.refl w.heap.size w)
 have H := h; unfold sleuthlaw0_SameNode.f at H
 clear h
 by_cases c3 : a0_0 = a1_0
 case neg =>
  rw [if_neg c3] at H
  have c3b0 : (a0_0 == a1_0) = false := beq_eq_false_iff_ne.mpr c3
  have c3b1 : (a0_0 != a1_0) = true := bne_iff_ne.mpr c3
  obtain rfl := Option.some.inj H
  go_enter Tryz.func44, Tryz.ntmps44
  go_wp2_with (first | ((with_reducible refine gate_dst (N := 2) rfl ?_); refine boxE_ 2 #[.int .i64 a0_0, .int .i64 a0_1, .slice A0_2 l0_2.length c0_2, .string a0_3] 66 ?_; intro gb216 hg w22 hbox hb; have BK216 := a_ (hbox); have GW216 := a_ ((gE_ hg : w.heap.size ≤ gb216)); have GE216 := a_ ((gE_ hg : w.heap.size ≤ gb216)); replace HB := a_ (below_step hB_ hb); clear hb hbox hg) | ((with_reducible refine gate_dst (N := 3) rfl ?_); refine boxE_ 3 #[.int .i64 a1_0, .int .i64 a1_1, .slice A1_2 l1_2.length c1_2, .string a1_3] 66 ?_; intro gb217 hg w23 hbox hb; have BK217 := a_ (hbox); have GW217 := a_ ((gE_ hg : w.heap.size ≤ gb217)); have GE217 := a_ ((gE_ hg : w.heap.size ≤ gb217)); replace HB := a_ (below_step hC_ hb); have NB216_217 := a_ ((bL_ BK216.out hg : gb216 ≠ gb217)); have NB217_216 := a_ ((bG_ BK216.out hg : gb217 ≠ gb216)); replace BK216 := a_ (bB_ BK216.out hb); clear hb hbox hg; have hnb24 := NB216_217.out; have hnc24 := NB217_216.out; obtain ⟨hcz25_0, hcz25_1, hcz25_2, hcz25_3, hfz25_0, hfz25_1, hfz25_2, hfz25_3⟩ := bx4_ BK216.out; obtain ⟨hcz26_0, hcz26_1, hcz26_2, hcz26_3, hfz26_0, hfz26_1, hfz26_2, hfz26_3⟩ := bx4_ BK217.out))
  go_ret
  exact ⟨hV_, hC_⟩

 rw [if_pos c3] at H
 have c3b0 : (a0_0 == a1_0) = true := beq_iff_eq.mpr c3
 have c3b1 : (a0_0 != a1_0) = false := bne_eq_false_iff_eq.mpr c3
 clear c3
 by_cases c4 : a0_1 = a1_1
 case neg =>
  rw [if_neg c4] at H
  have c4b0 : (a0_1 == a1_1) = false := beq_eq_false_iff_ne.mpr c4
  have c4b1 : (a0_1 != a1_1) = true := bne_iff_ne.mpr c4
  obtain rfl := Option.some.inj H
  go_enter Tryz.func44, Tryz.ntmps44
  go_wp2_with (first | ((with_reducible refine gate_dst (N := 2) rfl ?_); refine boxE_ 2 #[.int .i64 a0_0, .int .i64 a0_1, .slice A0_2 l0_2.length c0_2, .string a0_3] 66 ?_; intro gb216 hg w17 hbox hb; have BK216 := a_ (hbox); have GW216 := a_ ((gE_ hg : w.heap.size ≤ gb216)); have GE216 := a_ ((gE_ hg : w.heap.size ≤ gb216)); replace HB := a_ (below_step hB_ hb); clear hb hbox hg) | ((with_reducible refine gate_dst (N := 3) rfl ?_); refine boxE_ 3 #[.int .i64 a1_0, .int .i64 a1_1, .slice A1_2 l1_2.length c1_2, .string a1_3] 66 ?_; intro gb217 hg w18 hbox hb; have BK217 := a_ (hbox); have GW217 := a_ ((gE_ hg : w.heap.size ≤ gb217)); have GE217 := a_ ((gE_ hg : w.heap.size ≤ gb217)); replace HB := a_ (below_step hC_ hb); have NB216_217 := a_ ((bL_ BK216.out hg : gb216 ≠ gb217)); have NB217_216 := a_ ((bG_ BK216.out hg : gb217 ≠ gb216)); replace BK216 := a_ (bB_ BK216.out hb); clear hb hbox hg; have hnb19 := NB216_217.out; have hnc19 := NB217_216.out; obtain ⟨hcz20_0, hcz20_1, hcz20_2, hcz20_3, hfz20_0, hfz20_1, hfz20_2, hfz20_3⟩ := bx4_ BK216.out; obtain ⟨hcz21_0, hcz21_1, hcz21_2, hcz21_3, hfz21_0, hfz21_1, hfz21_2, hfz21_3⟩ := bx4_ BK217.out))
  go_ret
  exact ⟨hV_, hC_⟩
 rw [if_pos c4] at H
 have c4b0 : (a0_1 == a1_1) = true := beq_iff_eq.mpr c4
 have c4b1 : (a0_1 != a1_1) = false := bne_eq_false_iff_eq.mpr c4
 clear c4
 replace H := Option.bind_eq_some_iff.mp H
 obtain ⟨t218, A50, H⟩ := H
 try dsimp only at H
 have A5 := a_ A50
 clear A50
 by_cases c6 : t218 = true
 case pos =>
  subst c6
  rw [if_pos rfl] at H
  obtain rfl := Option.some.inj H
  go_enter Tryz.func44, Tryz.ntmps44
  go_wp2_with (first | ((with_reducible refine gate_dst (N := 2) rfl ?_); refine boxE_ 2 #[.int .i64 a0_0, .int .i64 a0_1, .slice A0_2 l0_2.length c0_2, .string a0_3] 66 ?_; intro gb216 hg w7 hbox hb; have BK216 := a_ (hbox); have GW216 := a_ ((gE_ hg : w.heap.size ≤ gb216)); have GE216 := a_ ((gE_ hg : w.heap.size ≤ gb216)); replace HB := a_ (below_step hB_ hb); clear hb hbox hg) | ((with_reducible refine gate_dst (N := 3) rfl ?_); refine boxE_ 3 #[.int .i64 a1_0, .int .i64 a1_1, .slice A1_2 l1_2.length c1_2, .string a1_3] 66 ?_; intro gb217 hg w8 hbox hb; have BK217 := a_ (hbox); have GW217 := a_ ((gE_ hg : w.heap.size ≤ gb217)); have GE217 := a_ ((gE_ hg : w.heap.size ≤ gb217)); replace HB := a_ (below_step hC_ hb); have NB216_217 := a_ ((bL_ BK216.out hg : gb216 ≠ gb217)); have NB217_216 := a_ ((bG_ BK216.out hg : gb217 ≠ gb216)); replace BK216 := a_ (bB_ BK216.out hb); clear hb hbox hg; have hnb9 := NB216_217.out; have hnc9 := NB217_216.out; obtain ⟨hcz10_0, hcz10_1, hcz10_2, hcz10_3, hfz10_0, hfz10_1, hfz10_2, hfz10_3⟩ := bx4_ BK216.out; obtain ⟨hcz11_0, hcz11_1, hcz11_2, hcz11_3, hfz11_0, hfz11_1, hfz11_2, hfz11_3⟩ := bx4_ BK217.out) | (go_at_call 52; (with_reducible refine (sleuthlaw0_SameTexts.calls k _ _ l0_2 _ _ l1_2 true _ ?side1 ?side2 ?side3 ?side4 A5.out).mono ?_); (case side1 => exact cB_ HR0_2.out); (case side2 => exact HC0_2.out); (case side3 => exact cB_ HR1_2.out); (case side4 => exact HC1_2.out); rintro e w' ⟨rfl, ⟨nd, rfl⟩⟩))
  go_ret
  exact ⟨hV_, hC_⟩
 replace c6 := Bool.eq_false_iff.mpr c6
 subst c6
 rw [if_neg (show ¬ (false = true) by decide)] at H
 obtain rfl := Option.some.inj H
 go_enter Tryz.func44, Tryz.ntmps44
 go_wp2_with (first | ((with_reducible refine gate_dst (N := 2) rfl ?_); refine boxE_ 2 #[.int .i64 a0_0, .int .i64 a0_1, .slice A0_2 l0_2.length c0_2, .string a0_3] 66 ?_; intro gb216 hg w12 hbox hb; have BK216 := a_ (hbox); have GW216 := a_ ((gE_ hg : w.heap.size ≤ gb216)); have GE216 := a_ ((gE_ hg : w.heap.size ≤ gb216)); replace HB := a_ (below_step hB_ hb); clear hb hbox hg) | ((with_reducible refine gate_dst (N := 3) rfl ?_); refine boxE_ 3 #[.int .i64 a1_0, .int .i64 a1_1, .slice A1_2 l1_2.length c1_2, .string a1_3] 66 ?_; intro gb217 hg w13 hbox hb; have BK217 := a_ (hbox); have GW217 := a_ ((gE_ hg : w.heap.size ≤ gb217)); have GE217 := a_ ((gE_ hg : w.heap.size ≤ gb217)); replace HB := a_ (below_step hC_ hb); have NB216_217 := a_ ((bL_ BK216.out hg : gb216 ≠ gb217)); have NB217_216 := a_ ((bG_ BK216.out hg : gb217 ≠ gb216)); replace BK216 := a_ (bB_ BK216.out hb); clear hb hbox hg; have hnb14 := NB216_217.out; have hnc14 := NB217_216.out; obtain ⟨hcz15_0, hcz15_1, hcz15_2, hcz15_3, hfz15_0, hfz15_1, hfz15_2, hfz15_3⟩ := bx4_ BK216.out; obtain ⟨hcz16_0, hcz16_1, hcz16_2, hcz16_3, hfz16_0, hfz16_1, hfz16_2, hfz16_3⟩ := bx4_ BK217.out) | (go_at_call 52; (with_reducible refine (sleuthlaw0_SameTexts.calls k _ _ l0_2 _ _ l1_2 false _ ?side1 ?side2 ?side3 ?side4 A5.out).mono ?_); (case side1 => exact cB_ HR0_2.out); (case side2 => exact HC0_2.out); (case side3 => exact cB_ HR1_2.out); (case side4 => exact HC1_2.out); rintro e w' ⟨rfl, ⟨nd, rfl⟩⟩))
 go_ret
 exact ⟨hV_, hC_⟩
end Go.Proofs.YtbnljapgnfmmoaaGreatDoor.G
end
section
-- Laid by the session's own driver gp.py over the kit's printer. Not trusted: Lean checks it.
namespace Go.Proofs.YtbnljapgnfmmoaaGreatDoor.G
open Go.RowKit Go.Proofs.YtbnljapgnfmmoaaGreatDoorW.PrintWords Go.Proofs.YtbnljapgnfmmoaaGreatDoorW.PrintLast Go.Proofs.YtbnljapgnfmmoaaGreatDoorW.PrintMore
set_option maxHeartbeats 8000000
set_option maxRecDepth 100000
attribute [local go_sem] max2_int min2_int max_two min_two max_three min_three max_four min_four   -- for this text's walks alone
set_option linter.unusedVariables false
set_option linter.unusedSimpArgs false

def sleuthlaw0_SameNodes.l0 : Nat → List (S66) → List (S66) → Int → Option (Bool)
 | 0, _, _, _ => none
 | k + 1, x0, x1, x5 => if x5 < (x0.length : Int) then (if 0 ≤ x5 then (if x5 < (x1.length : Int) then ((sleuthlaw0_SameNode.f k ((rd_T66 x0 x5).f0) ((rd_T66 x0 x5).f1) ((rd_T66 x0 x5).f2) ((rd_T66 x0 x5).f3) ((rd_T66 x1 x5).f0) ((rd_T66 x1 x5).f1) ((rd_T66 x1 x5).f2) ((rd_T66 x1 x5).f3)).bind fun t221 => (if t221 = true then (sleuthlaw0_SameNodes.l0 k x0 x1 (wrap64 (x5 + 1))) else (some false))) else (none)) else (none)) else (some true)
def sleuthlaw0_SameNodes.f (k : Nat) (l0 : List (S66)) (l1 : List (S66)) : Option (Bool) := if (l0.length : Int) = (l1.length : Int) then (sleuthlaw0_SameNodes.l0 k l0 l1 0) else (some false)
theorem sleuthlaw0_SameNodes.mono_l : ∀ k, (∀ y0 y1 y2, LeO (sleuthlaw0_SameNodes.l0 k y0 y1 y2) (sleuthlaw0_SameNodes.l0 (k + 1) y0 y1 y2))
 | 0 => fun _ _ _ r h => by simp [sleuthlaw0_SameNodes.l0] at h
 | k + 1 => by
  have ih0 := sleuthlaw0_SameNodes.mono_l k
  · intro y0 y1 y2
    unfold sleuthlaw0_SameNodes.l0
    repeat' first
    | (with_reducible exact ih0 _ _ _)
    | (with_reducible exact sleuthlaw0_SameNode.mono _ _ _ _ _ _ _ _ _)
    | (with_reducible exact LeO.refl _)
    | (with_reducible exact LeO.none _)
    | (with_reducible refine LeO.ite ?_ ?_)
    | (with_reducible refine LeO.bind ?_ (fun _ => ?_))
    | exact ih0 _ _ _
    | exact sleuthlaw0_SameNode.mono _ _ _ _ _ _ _ _ _
    | exact LeO.none _
    | refine LeO.ite ?_ ?_
    | refine LeO.bind ?_ (fun _ => ?_)
theorem sleuthlaw0_SameNodes.mono : ∀ a0 a1 k, LeO (sleuthlaw0_SameNodes.f k a0 a1) (sleuthlaw0_SameNodes.f (k + 1) a0 a1) := by
 intro a0 a1 k
 have ih0 := sleuthlaw0_SameNodes.mono_l k
 unfold sleuthlaw0_SameNodes.f
 repeat' first
  | (with_reducible exact ih0 _ _ _)
  | (with_reducible exact sleuthlaw0_SameNode.mono _ _ _ _ _ _ _ _ _)
  | (with_reducible exact LeO.refl _)
  | (with_reducible exact LeO.none _)
  | (with_reducible refine LeO.ite ?_ ?_)
  | (with_reducible refine LeO.bind ?_ (fun _ => ?_))
  | exact ih0 _ _ _
  | exact sleuthlaw0_SameNode.mono _ _ _ _ _ _ _ _ _
  | exact LeO.none _
  | refine LeO.ite ?_ ?_
  | refine LeO.bind ?_ (fun _ => ?_)
def sleuthlaw0_SameNodes.T6 : Bool × List (List Nat × List Nat) := (true, [([], []), ([], []), ([0, 1], [0, 1]), ([2], [2]), ([], []), ([], []), ([4, 5], [4, 5]), ([6], [6]), ([3, 7], [3, 7]), ([8], [8])])
def sleuthlaw0_SameNodes.B6 : List Nat := [0, 0, 3, 7, 0, 0, 48, 112, 255, 511]
theorem sleuthlaw0_SameNodes.tab6 : rtab .any (opsOf Tryz.f28 6) = sleuthlaw0_SameNodes.T6 := by kernel_rfl
theorem sleuthlaw0_SameNodes.bits6 : waitsOk sleuthlaw0_SameNodes.T6.2 sleuthlaw0_SameNodes.B6 = true := by kernel_rfl
theorem sleuthlaw0_SameNodes.calls (k : Nat) (A0 : Option Addr) (c0 : Nat) (l0 : List (S66)) (A1 : Option Addr) (c1 : Nat) (l1 : List (S66)) (r : Bool) (w : World) (hr0 : Kd.C k66 w A0 l0.length l0) (hc0 : l0.length ≤ c0) (hr1 : Kd.C k66 w A1 l1.length l1) (hc1 : l1.length ≤ c1) (h : sleuthlaw0_SameNodes.f k l0 l1 = some r) :
 Calls Tryz.prog 28 #[.slice A0 l0.length c0, .slice A1 l1.length c1] w fun e w' => e = .returned (.bool r) ∧ Below w.heap.size w w' := by
 have hu66 := Tryz.underlying66
 have HR0 := a_ hr0
 have HC0 := a_ hc0
 clear hr0 hc0
 have HR1 := a_ hr1
 have HC1 := a_ hc1
 clear hr1 hc1
 have HB := a_ (Below.refl w.heap.size w)
 have H := h; unfold sleuthlaw0_SameNodes.f at H
 clear h
 by_cases c3 : (l0.length : Int) = (l1.length : Int)
 case neg =>
  rw [if_neg c3] at H
  have c3b0 : ((l0.length : Int) == (l1.length : Int)) = false := beq_eq_false_iff_ne.mpr c3
  have c3b1 : ((l0.length : Int) != (l1.length : Int)) = true := bne_iff_ne.mpr c3
  have c3b2 : (l0.length == l1.length) = false := by first | simpa using c3 | (simp at c3 ⊢; omega)
  obtain rfl := Option.some.inj H
  go_enter Tryz.func28, Tryz.ntmps28
  go_wp2
  go_ret
  exact ⟨hV_, hC_⟩

 rw [if_pos c3] at H
 have c3b0 : ((l0.length : Int) == (l1.length : Int)) = true := beq_iff_eq.mpr c3
 have c3b1 : ((l0.length : Int) != (l1.length : Int)) = false := bne_eq_false_iff_eq.mpr c3
 have c3b2 : (l0.length == l1.length) = true := by first | simpa using c3 | (simp at c3 ⊢; omega)
 clear c3
 have H' := a_ H
 clear H
 go_enter Tryz.func28, Tryz.ntmps28
 go_wp2
 go_loopg [5] k (fun kq v5 w' => ∃ (x5_1 : Int), v5 = .int .i64 x5_1 ∧ Aside0 (sleuthlaw0_SameNodes.l0 kq l0 l1 x5_1 = some r) ∧ Aside0 (kq ≤ k) ∧ Aside0 (Below w.heap.size w w'))
 case atStart => exact ⟨(0), hW_, H', ⟨Nat.le_refl _⟩, ⟨hC_⟩⟩
 case round =>
  clear H'
  try clear c1
  try clear c2
  try clear p2
  try clear c3
  try clear c3b0
  try clear c3b1
  try clear c3b2
  obtain ⟨x5_1, rfl, HA, HK1, HB⟩ := hrel
  cases gk with
  | zero => exact absurd HA.out (by simp [sleuthlaw0_SameNodes.l0])
  | succ k1 =>
   have H := HA.out
   clear HA
   simp only [sleuthlaw0_SameNodes.l0] at H
   by_cases c4 : x5_1 < (l0.length : Int)
   case neg =>
    rw [if_neg c4] at H
    have c4b0 : decide (x5_1 < (l0.length : Int)) = false := decide_eq_false c4
    clear c4
    obtain rfl := Option.some.inj H
    go_wp2
    go_ret
    exact ⟨hV_, hC_⟩
   rw [if_pos c4] at H
   have c4b0 : decide (x5_1 < (l0.length : Int)) = true := decide_eq_true c4
   clear c4
   replace H := ifI_ H; obtain ⟨c5, H⟩ := H
   have c5b0 : decide (0 ≤ x5_1) = true := decide_eq_true c5
   clear c5
   replace H := ifI_ H; obtain ⟨c6, H⟩ := H
   have c6b0 : decide (x5_1 < (l1.length : Int)) = true := decide_eq_true c6
   clear c6
   replace H := Option.bind_eq_some_iff.mp H
   obtain ⟨t221, A70, H⟩ := H
   try dsimp only at H
   have A7 := a_ A70
   clear A70
   by_cases c8 : t221 = true
   case neg =>
    replace c8 := Bool.eq_false_iff.mpr c8
    subst c8
    rw [if_neg (show ¬ (false = true) by decide)] at H
    obtain rfl := Option.some.inj H
    try go_wp2
    replace HB := a_ (below_drew1 HB.out)
    have p219 : 0 ≤ (x5_1 : Int) := of_decide_eq_true hA_
    have q219 : x5_1 < (l0.length : Int) := of_decide_eq_true hA_
    obtain ⟨ad219, A219_2, c219_2, e219, hx219_0, hx219_1, hx219_2, hx219_3, hl219_2, hi219_2⟩ := at_T66 HR0.out x5_1 p219 q219
    have hw219_3 := hx219_3
    have hw219_2 := hx219_2
    have hw219_1 := hx219_1
    have hw219_0 := hx219_0
    cases e219
    replace hx219_0 := cl_ HB.out hx219_0
    replace hx219_1 := cl_ HB.out hx219_1
    replace hx219_2 := cl_ HB.out hx219_2
    replace hx219_3 := cl_ HB.out hx219_3
    have HR219_2 := a_ hi219_2
    have HC219_2 := a_ hl219_2
    clear hi219_2 hl219_2
    replace p219 := eq_true p219
    replace q219 := eq_true q219
    have p220 : 0 ≤ (x5_1 : Int) := of_decide_eq_true hA_
    have q220 : x5_1 < (l1.length : Int) := of_decide_eq_true hA_
    obtain ⟨ad220, A220_2, c220_2, e220, hx220_0, hx220_1, hx220_2, hx220_3, hl220_2, hi220_2⟩ := at_T66 HR1.out x5_1 p220 q220
    have hw220_3 := hx220_3
    have hw220_2 := hx220_2
    have hw220_1 := hx220_1
    have hw220_0 := hx220_0
    cases e220
    replace hx220_0 := cl_ HB.out hx220_0
    replace hx220_1 := cl_ HB.out hx220_1
    replace hx220_2 := cl_ HB.out hx220_2
    replace hx220_3 := cl_ HB.out hx220_3
    have HR220_2 := a_ hi220_2
    have HC220_2 := a_ hl220_2
    clear hi220_2 hl220_2
    replace p220 := eq_true p220
    replace q220 := eq_true q220
    refine start_ (n := 10) (S := fun w' => w'.cell? (ad219.add ((x5_1).toNat * 4)) = some (.int .i64 ((rd_T66 l0 x5_1).f0)) ∧ w'.cell? ⟨(ad219.add ((x5_1).toNat * 4)).block, (ad219.add ((x5_1).toNat * 4)).off + 1, none⟩ = some (.int .i64 ((rd_T66 l0 x5_1).f1)) ∧ w'.cell? ⟨(ad219.add ((x5_1).toNat * 4)).block, (ad219.add ((x5_1).toNat * 4)).off + 2, none⟩ = some (.slice A219_2 ((rd_T66 l0 x5_1).f2).length c219_2) ∧ w'.cell? ⟨(ad219.add ((x5_1).toNat * 4)).block, (ad219.add ((x5_1).toNat * 4)).off + 3, none⟩ = some (.string ((rd_T66 l0 x5_1).f3)) ∧ w'.cell? (ad220.add ((x5_1).toNat * 4)) = some (.int .i64 ((rd_T66 l1 x5_1).f0)) ∧ w'.cell? ⟨(ad220.add ((x5_1).toNat * 4)).block, (ad220.add ((x5_1).toNat * 4)).off + 1, none⟩ = some (.int .i64 ((rd_T66 l1 x5_1).f1)) ∧ w'.cell? ⟨(ad220.add ((x5_1).toNat * 4)).block, (ad220.add ((x5_1).toNat * 4)).off + 2, none⟩ = some (.slice A220_2 ((rd_T66 l1 x5_1).f2).length c220_2) ∧ w'.cell? ⟨(ad220.add ((x5_1).toNat * 4)).block, (ad220.add ((x5_1).toNat * 4)).off + 3, none⟩ = some (.string ((rd_T66 l1 x5_1).f3))) (ds := []) #[false, false, false, false, false, false, false, false, false, false] (by kernel_rfl) rfl rfl ⟨(cl_ HB.out hw219_0), (cl_ HB.out hw219_1), (cl_ HB.out hw219_2), (cl_ HB.out hw219_3), (cl_ HB.out hw220_0), (cl_ HB.out hw220_1), (cl_ HB.out hw220_2), (cl_ HB.out hw220_3)⟩ (fun hHeld => ?_); refine with_tabW sleuthlaw0_SameNodes.tab6 sleuthlaw0_SameNodes.bits6 (fun HT_ HW_ => ?_)
    generalize wr.drew = w11 at HB HR219_2 HR220_2 hx219_0 hx219_1 hx219_2 hx219_3 hx220_0 hx220_1 hx220_2 hx220_3 hHeld ⊢
    refine pB_ 0 17 HT_.out ?_
    refine pB_ 1 18 HT_.out ?_
    refine pB_ 2 19 HT_.out ?_
    refine pB_ 4 21 HT_.out ?_
    refine pB_ 5 22 HT_.out ?_
    refine pB_ 6 23 HT_.out ?_
    refine tB_ 3 20 HT_.out HW_.out hHeld ?_
    refine tB_ 7 24 HT_.out HW_.out hHeld ?_
    refine one_ (i := 8) (N := some 25) #[true, true, true, true, true, true, true, true, true, false] rfl rfl (one_of HT_.out (by kernel_rfl)) (by decide) (fun K hK => ?_)
    refine goes_ Tryz.func44 (by kernel_rfl) rfl #[.agg #[.int .i64 ((rd_T66 l0 x5_1).f0), .int .i64 ((rd_T66 l0 x5_1).f1), .slice A219_2 ((rd_T66 l0 x5_1).f2).length c219_2, .string ((rd_T66 l0 x5_1).f3)], .agg #[.int .i64 ((rd_T66 l1 x5_1).f0), .int .i64 ((rd_T66 l1 x5_1).f1), .slice A220_2 ((rd_T66 l1 x5_1).f2).length c220_2, .string ((rd_T66 l1 x5_1).f3)]] (by rfl) rfl rfl hL_ ?_
    with_reducible refine (sleuthlaw0_SameNode.calls k1 ((rd_T66 l0 x5_1).f0) ((rd_T66 l0 x5_1).f1) _ _ ((rd_T66 l0 x5_1).f2) ((rd_T66 l0 x5_1).f3) ((rd_T66 l1 x5_1).f0) ((rd_T66 l1 x5_1).f1) _ _ ((rd_T66 l1 x5_1).f2) ((rd_T66 l1 x5_1).f3) false _ ?side1 ?side2 ?side3 ?side4 A7.out).mono ?_
    (case side1 => exact cB_ HR219_2.out)
    (case side2 => exact HC219_2.out)
    (case side3 => exact cB_ HR220_2.out)
    (case side4 => exact HC220_2.out)
    rintro e w12 ⟨rfl, hb⟩
    refine ⟨_, rfl, ?_⟩
    replace HB := a_ (below_step hB_ hb)
    (try clear hb)
    (try clear hb2)
    (try clear hk)
    (try clear hi)
    refine hK.out _ _ ⟨(cl_ HB.out hw219_0), (cl_ HB.out hw219_1), (cl_ HB.out hw219_2), (cl_ HB.out hw219_3), (cl_ HB.out hw220_0), (cl_ HB.out hw220_1), (cl_ HB.out hw220_2), (cl_ HB.out hw220_3)⟩ (fun hHeld => ?_)
    clear hK K
    refine norm_ (a' := ?_) ?_ ?_
    rotate_left
    · show Act.put _ (some 25) _ = _
      simp only [Act.put, List.setIfInBounds_toArray, List.set_cons_zero, List.set_cons_succ, i64_w, i32_w]
      rfl
    refine pB_ 9 26 HT_.out ?_
    refine done_ (done_of HT_.out (by kernel_rfl)) ?_
    try go_wp2
    go_ret
    exact ⟨hV_, hC_⟩
   subst c8
   rw [if_pos rfl] at H
   have H' := a_ H
   clear H
   try go_wp2
   replace HB := a_ (below_drew1 HB.out)
   have p219 : 0 ≤ (x5_1 : Int) := of_decide_eq_true hA_
   have q219 : x5_1 < (l0.length : Int) := of_decide_eq_true hA_
   obtain ⟨ad219, A219_2, c219_2, e219, hx219_0, hx219_1, hx219_2, hx219_3, hl219_2, hi219_2⟩ := at_T66 HR0.out x5_1 p219 q219
   have hw219_3 := hx219_3
   have hw219_2 := hx219_2
   have hw219_1 := hx219_1
   have hw219_0 := hx219_0
   cases e219
   replace hx219_0 := cl_ HB.out hx219_0
   replace hx219_1 := cl_ HB.out hx219_1
   replace hx219_2 := cl_ HB.out hx219_2
   replace hx219_3 := cl_ HB.out hx219_3
   have HR219_2 := a_ hi219_2
   have HC219_2 := a_ hl219_2
   clear hi219_2 hl219_2
   replace p219 := eq_true p219
   replace q219 := eq_true q219
   have p220 : 0 ≤ (x5_1 : Int) := of_decide_eq_true hA_
   have q220 : x5_1 < (l1.length : Int) := of_decide_eq_true hA_
   obtain ⟨ad220, A220_2, c220_2, e220, hx220_0, hx220_1, hx220_2, hx220_3, hl220_2, hi220_2⟩ := at_T66 HR1.out x5_1 p220 q220
   have hw220_3 := hx220_3
   have hw220_2 := hx220_2
   have hw220_1 := hx220_1
   have hw220_0 := hx220_0
   cases e220
   replace hx220_0 := cl_ HB.out hx220_0
   replace hx220_1 := cl_ HB.out hx220_1
   replace hx220_2 := cl_ HB.out hx220_2
   replace hx220_3 := cl_ HB.out hx220_3
   have HR220_2 := a_ hi220_2
   have HC220_2 := a_ hl220_2
   clear hi220_2 hl220_2
   replace p220 := eq_true p220
   replace q220 := eq_true q220
   refine start_ (n := 10) (S := fun w' => w'.cell? (ad219.add ((x5_1).toNat * 4)) = some (.int .i64 ((rd_T66 l0 x5_1).f0)) ∧ w'.cell? ⟨(ad219.add ((x5_1).toNat * 4)).block, (ad219.add ((x5_1).toNat * 4)).off + 1, none⟩ = some (.int .i64 ((rd_T66 l0 x5_1).f1)) ∧ w'.cell? ⟨(ad219.add ((x5_1).toNat * 4)).block, (ad219.add ((x5_1).toNat * 4)).off + 2, none⟩ = some (.slice A219_2 ((rd_T66 l0 x5_1).f2).length c219_2) ∧ w'.cell? ⟨(ad219.add ((x5_1).toNat * 4)).block, (ad219.add ((x5_1).toNat * 4)).off + 3, none⟩ = some (.string ((rd_T66 l0 x5_1).f3)) ∧ w'.cell? (ad220.add ((x5_1).toNat * 4)) = some (.int .i64 ((rd_T66 l1 x5_1).f0)) ∧ w'.cell? ⟨(ad220.add ((x5_1).toNat * 4)).block, (ad220.add ((x5_1).toNat * 4)).off + 1, none⟩ = some (.int .i64 ((rd_T66 l1 x5_1).f1)) ∧ w'.cell? ⟨(ad220.add ((x5_1).toNat * 4)).block, (ad220.add ((x5_1).toNat * 4)).off + 2, none⟩ = some (.slice A220_2 ((rd_T66 l1 x5_1).f2).length c220_2) ∧ w'.cell? ⟨(ad220.add ((x5_1).toNat * 4)).block, (ad220.add ((x5_1).toNat * 4)).off + 3, none⟩ = some (.string ((rd_T66 l1 x5_1).f3))) (ds := []) #[false, false, false, false, false, false, false, false, false, false] (by kernel_rfl) rfl rfl ⟨(cl_ HB.out hw219_0), (cl_ HB.out hw219_1), (cl_ HB.out hw219_2), (cl_ HB.out hw219_3), (cl_ HB.out hw220_0), (cl_ HB.out hw220_1), (cl_ HB.out hw220_2), (cl_ HB.out hw220_3)⟩ (fun hHeld => ?_); refine with_tabW sleuthlaw0_SameNodes.tab6 sleuthlaw0_SameNodes.bits6 (fun HT_ HW_ => ?_)
   generalize wr.drew = w9 at HB HR219_2 HR220_2 hx219_0 hx219_1 hx219_2 hx219_3 hx220_0 hx220_1 hx220_2 hx220_3 hHeld ⊢
   refine pB_ 0 17 HT_.out ?_
   refine pB_ 1 18 HT_.out ?_
   refine pB_ 2 19 HT_.out ?_
   refine pB_ 4 21 HT_.out ?_
   refine pB_ 5 22 HT_.out ?_
   refine pB_ 6 23 HT_.out ?_
   refine tB_ 3 20 HT_.out HW_.out hHeld ?_
   refine tB_ 7 24 HT_.out HW_.out hHeld ?_
   refine one_ (i := 8) (N := some 25) #[true, true, true, true, true, true, true, true, true, false] rfl rfl (one_of HT_.out (by kernel_rfl)) (by decide) (fun K hK => ?_)
   refine goes_ Tryz.func44 (by kernel_rfl) rfl #[.agg #[.int .i64 ((rd_T66 l0 x5_1).f0), .int .i64 ((rd_T66 l0 x5_1).f1), .slice A219_2 ((rd_T66 l0 x5_1).f2).length c219_2, .string ((rd_T66 l0 x5_1).f3)], .agg #[.int .i64 ((rd_T66 l1 x5_1).f0), .int .i64 ((rd_T66 l1 x5_1).f1), .slice A220_2 ((rd_T66 l1 x5_1).f2).length c220_2, .string ((rd_T66 l1 x5_1).f3)]] (by rfl) rfl rfl hL_ ?_
   with_reducible refine (sleuthlaw0_SameNode.calls k1 ((rd_T66 l0 x5_1).f0) ((rd_T66 l0 x5_1).f1) _ _ ((rd_T66 l0 x5_1).f2) ((rd_T66 l0 x5_1).f3) ((rd_T66 l1 x5_1).f0) ((rd_T66 l1 x5_1).f1) _ _ ((rd_T66 l1 x5_1).f2) ((rd_T66 l1 x5_1).f3) true _ ?side1 ?side2 ?side3 ?side4 A7.out).mono ?_
   (case side1 => exact cB_ HR219_2.out)
   (case side2 => exact HC219_2.out)
   (case side3 => exact cB_ HR220_2.out)
   (case side4 => exact HC220_2.out)
   rintro e w10 ⟨rfl, hb⟩
   refine ⟨_, rfl, ?_⟩
   replace HB := a_ (below_step hB_ hb)
   (try clear hb)
   (try clear hb2)
   (try clear hk)
   (try clear hi)
   refine hK.out _ _ ⟨(cl_ HB.out hw219_0), (cl_ HB.out hw219_1), (cl_ HB.out hw219_2), (cl_ HB.out hw219_3), (cl_ HB.out hw220_0), (cl_ HB.out hw220_1), (cl_ HB.out hw220_2), (cl_ HB.out hw220_3)⟩ (fun hHeld => ?_)
   clear hK K
   refine norm_ (a' := ?_) ?_ ?_
   rotate_left
   · show Act.put _ (some 25) _ = _
     simp only [Act.put, List.setIfInBounds_toArray, List.set_cons_zero, List.set_cons_succ, i64_w, i32_w]
     rfl
   refine pB_ 9 26 HT_.out ?_
   refine done_ (done_of HT_.out (by kernel_rfl)) ?_
   try go_wp2
   go_roundg k1
   case measure => have := HK1.out; omega
   case rel => exact ⟨(wrap64 (x5_1 + 1)), hW_, H', ⟨by have := HK1.out; omega⟩, ⟨hC_⟩⟩
end Go.Proofs.YtbnljapgnfmmoaaGreatDoor.G
end
