/- Parts of this proof, one behind the other: G29, G30, G31, G32. -/
import Derived.Test.YtbnljapgnfmmoaaGreatDoorU2
import Derived.Test.YtbnljapgnfmmoaaGreatDoorG0
import Derived.Test.YtbnljapgnfmmoaaGreatDoorU5
import Derived.Test.YtbnljapgnfmmoaaGreatDoorU6
section
namespace Go.Proofs.YtbnljapgnfmmoaaGreatDoor.G
open Go.RowKit Go.Proofs.YtbnljapgnfmmoaaGreatDoorW.PrintWords Go.Proofs.YtbnljapgnfmmoaaGreatDoorW.PrintLast Go.Proofs.YtbnljapgnfmmoaaGreatDoorW.PrintMore
set_option maxHeartbeats 8000000
set_option maxRecDepth 100000
attribute [local go_sem] max2_int min2_int max_two min_two max_three min_three max_four min_four   -- for this text's walks alone
set_option linter.unusedVariables false
set_option linter.unusedSimpArgs false

def next_Step.f (k : Nat) (l0_0 : List (S66)) (a0_1 : Int) (l0_2 : List (S53)) : Option (Int × Int × Int) := (next_Marks.f k l0_0 a0_1 l0_2).bind fun bt196 => (if bt196.2 = 0 then ((next_Way.f a0_1).bind fun t200 => (if t200 = true then ((next_Ask.f k a0_1 l0_0 bt196.1).bind fun bt201 => (some (bt201.1, bt201.2, 0))) else (some (0, 0, 2000)))) else (some (0, 0, 2000)))
theorem next_Step.calls (k : Nat) (A0_0 : Option Addr) (c0_0 : Nat) (l0_0 : List (S66)) (a0_1 : Int) (A0_2 : Option Addr) (c0_2 : Nat) (l0_2 : List (S53)) (r1 : Int) (r2 : Int) (r3 : Int) (w : World) (hr0_0 : Kd.C k66 w A0_0 l0_0.length l0_0) (hc0_0 : l0_0.length ≤ c0_0) (hr0_2 : Kd.C k53 w A0_2 l0_2.length l0_2) (hc0_2 : l0_2.length ≤ c0_2) (h : next_Step.f k l0_0 a0_1 l0_2 = some (r1, r2, r3)) (hG : GOK w) :
 Calls Tryz.prog 23 #[.agg #[.slice A0_0 l0_0.length c0_0, .int .i64 a0_1, .slice A0_2 l0_2.length c0_2]] w fun e w' => e = .returned (.tuple #[.agg #[.int .i64 r1, .int .i64 r2], .int .i64 r3]) ∧ Below w.heap.size w w' := by
 have hu25 := Tryz.underlying25
 have hu49 := Tryz.underlying49
 have HR0_0 := a_ hr0_0
 have HC0_0 := a_ hc0_0
 clear hr0_0 hc0_0
 have HR0_2 := a_ hr0_2
 have HC0_2 := a_ hc0_2
 clear hr0_2 hc0_2
 have HB := a_ (Below.refl w.heap.size w)
 have H := h; unfold next_Step.f at H
 clear h
 replace H := Option.bind_eq_some_iff.mp H
 obtain ⟨⟨t1, t0⟩, A20, H⟩ := H
 try dsimp only at H
 have A2 := a_ A20
 clear A20
 by_cases c3 : t0 = 0
 case neg =>
  rw [if_neg c3] at H
  have c3b0 : (t0 == 0) = false := beq_eq_false_iff_ne.mpr c3
  have c3b1 : (t0 != 0) = true := bne_iff_ne.mpr c3
  simp only [Option.some.injEq, Prod.mk.injEq] at H
  obtain ⟨rfl, rfl, rfl⟩ := H
  go_enter Tryz.func23, Tryz.ntmps23
  go_wp2_with (first | ((with_reducible refine gate_dst (N := 1) rfl ?_); refine boxE_ 1 #[.slice A0_0 l0_0.length c0_0, .int .i64 a0_1, .slice A0_2 l0_2.length c0_2] 25 ?_; intro g1 hg w2 hbox hb; have B0 := a_ (hbox); have E0 := a_ ((gE_ hg : w.heap.size ≤ g1)); replace HB := a_ (below_step hB_ hb); clear hb hbox hg) | ((with_reducible refine gate_dst (N := 2) rfl ?_); refine boxE_ 2 #[.int .i64 0, .int .i64 0] 49 ?_; intro g0 hg w3 hbox hb; have B1 := a_ (hbox); have E1 := a_ ((gE_ hg : w.heap.size ≤ g0)); replace HB := a_ (below_step hC_ hb); have N0 := a_ ((bL_ B0.out hg : g1 ≠ g0)); have N1 := a_ ((bG_ B0.out hg : g0 ≠ g1)); replace B0 := a_ (bB_ B0.out hb); clear hb hbox hg; have m0 := N0.out; have n0 := N1.out; obtain ⟨z0, z1, z2, f0, f1, f2⟩ := bx3_ B0.out) | ((with_reducible refine gate_callee (f := 38) rfl ?_); refine goesL_ (some 8) rfl rfl Tryz.func38 (by kernel_rfl) rfl #[.agg #[.slice A0_0 l0_0.length c0_0, .int .i64 a0_1, .slice A0_2 l0_2.length c0_2]] rfl hL_ ?_; (with_reducible refine (next_Marks.calls k _ _ l0_0 a0_1 _ _ l0_2 t1 t0 _ ?s1 ?s2 ?s3 ?s4 A2.out (by first | exact hG | exact GOK.below hG hC_)).mono ?_); (case s1 => exact cB_ HR0_0.out); (case s2 => exact HC0_0.out); (case s3 => exact cB_ HR0_2.out); (case s4 => exact HC0_2.out); rintro e w4 ⟨v0, rfl, ho0, hb⟩; refine ⟨_, rfl, ?_⟩; have P0 := a_ (Kd.R_lower ho0 (below_size hC_)); replace B0 := a_ (bB_ B0.out hb); replace B1 := a_ (bB_ B1.out hb); replace HB := a_ (below_step hC_ hb); (try clear hb); (try clear hb2); (try clear hk); (try clear hi); (try clear ho0); obtain ⟨z3, z4, f3, f4⟩ := bx2_ B1.out))
  refine bodyPost_ret (results_ct rfl _ _ g0 49 #[.int .i64 0, .int .i64 0] (0, 0) _ rfl (bP_ (bP_ (hK_ B1.out))) Tryz.underlying49 rfl (by kernel_rfl)) rfl ?_
  exact ⟨hV_, hC_⟩

 rw [if_pos c3] at H
 have c3b0 : (t0 == 0) = true := beq_iff_eq.mpr c3
 have c3b1 : (t0 != 0) = false := bne_eq_false_iff_eq.mpr c3
 clear c3
 replace H := Option.bind_eq_some_iff.mp H
 obtain ⟨t4, A40, H⟩ := H
 try dsimp only at H
 have A4 := a_ A40
 clear A40
 by_cases c5 : t4 = true
 case neg =>
  replace c5 := Bool.eq_false_iff.mpr c5
  subst c5
  rw [if_neg (show ¬ (false = true) by decide)] at H
  simp only [Option.some.injEq, Prod.mk.injEq] at H
  obtain ⟨rfl, rfl, rfl⟩ := H
  go_enter Tryz.func23, Tryz.ntmps23
  go_wp2_with (first | ((with_reducible refine gate_dst (N := 1) rfl ?_); refine boxE_ 1 #[.slice A0_0 l0_0.length c0_0, .int .i64 a0_1, .slice A0_2 l0_2.length c0_2] 25 ?_; intro g1 hg w5 hbox hb; have B0 := a_ (hbox); have E0 := a_ ((gE_ hg : w.heap.size ≤ g1)); replace HB := a_ (below_step hB_ hb); clear hb hbox hg) | ((with_reducible refine gate_dst (N := 2) rfl ?_); refine boxE_ 2 #[.int .i64 0, .int .i64 0] 49 ?_; intro g0 hg w6 hbox hb; have B1 := a_ (hbox); have E1 := a_ ((gE_ hg : w.heap.size ≤ g0)); replace HB := a_ (below_step hC_ hb); have N0 := a_ ((bL_ B0.out hg : g1 ≠ g0)); have N1 := a_ ((bG_ B0.out hg : g0 ≠ g1)); replace B0 := a_ (bB_ B0.out hb); clear hb hbox hg; have m1 := N0.out; have n1 := N1.out; obtain ⟨z5, z6, z7, f5, f6, f7⟩ := bx3_ B0.out) | ((with_reducible refine gate_callee (f := 38) rfl ?_); refine goesL_ _ rfl rfl Tryz.func38 (by kernel_rfl) rfl #[.agg #[.slice A0_0 l0_0.length c0_0, .int .i64 a0_1, .slice A0_2 l0_2.length c0_2]] rfl hL_ ?_; (with_reducible refine (next_Marks.calls k _ _ l0_0 a0_1 _ _ l0_2 t1 t0 _ ?s1 ?s2 ?s3 ?s4 A2.out (by first | exact hG | exact GOK.below hG hC_)).mono ?_); (case s1 => exact cB_ HR0_0.out); (case s2 => exact HC0_0.out); (case s3 => exact cB_ HR0_2.out); (case s4 => exact HC0_2.out); rintro e w0 ⟨v0, rfl, ho0, hb⟩; refine ⟨_, rfl, ?_⟩; have P0 := a_ (Kd.R_lower ho0 (below_size hC_)); replace B0 := a_ (bB_ B0.out hb); replace B1 := a_ (bB_ B1.out hb); replace HB := a_ (below_step hC_ hb); (try clear hb); (try clear hb2); (try clear hk); (try clear hi); (try clear ho0); obtain ⟨z8, z9, z10, f8, f9, f10⟩ := bx3_ B0.out) | (go_at_call 39; (with_reducible refine (next_Way.calls a0_1 false _ A4.out).mono ?_); rintro e w' ⟨rfl, ⟨nd, rfl⟩⟩; (try (rw [drewN_self w0]; generalize hq_ : World.drewN w0 _ = w0; replace P0 : Aside0 (Kd.R (Kd.int .i64) 3 w0 w.heap.size (fun _ => True) v0 t1) := ⟨by rw [← hq_]; exact (hR_ P0.out)⟩; replace B0 : Aside0 (w0.heap[g1]? = some (.cells #[.slice A0_0 l0_0.length c0_0, .int .i64 a0_1, .slice A0_2 l0_2.length c0_2] 25 (0, 0))) := ⟨by rw [← hq_]; exact (hK_ B0.out)⟩; replace B1 : Aside0 (w0.heap[g0]? = some (.cells #[.int .i64 0, .int .i64 0] 49 (0, 0))) := ⟨by rw [← hq_]; exact (hK_ B1.out)⟩; replace HB : Aside0 (Below w.heap.size w w0) := ⟨by rw [← hq_]; exact hC_⟩; clear hq_; (try have hcu0_0 := bc0_ B0.out); (try have hfu0_0 := blk_frozen B0.out 0); (try have hcu0_1 := bc1_ B0.out); (try have hfu0_1 := blk_frozen B0.out 1); (try have hcu0_2 := bc2_ B0.out); (try have hfu0_2 := blk_frozen B0.out 2); (try have hcu1_0 := bc0_ B1.out); (try have hfu1_0 := blk_frozen B1.out 0); (try have hcu1_1 := bc1_ B1.out); (try have hfu1_1 := blk_frozen B1.out 1))); obtain ⟨z11, z12, f11, f12⟩ := bx2_ B1.out))
  refine bodyPost_ret (results_ct rfl _ _ g0 49 #[.int .i64 0, .int .i64 0] (0, 0) _ rfl (bP_ (bP_ (hK_ B1.out))) Tryz.underlying49 rfl (by kernel_rfl)) rfl ?_
  exact ⟨hV_, hC_⟩
 subst c5
 rw [if_pos rfl] at H
 replace H := Option.bind_eq_some_iff.mp H
 obtain ⟨⟨t2, t3⟩, A60, H⟩ := H
 try dsimp only at H
 have A6 := a_ A60
 clear A60
 simp only [Option.some.injEq, Prod.mk.injEq] at H
 obtain ⟨rfl, rfl, rfl⟩ := H
 go_enter Tryz.func23, Tryz.ntmps23
 go_wp2_with (first | ((with_reducible refine gate_dst (N := 1) rfl ?_); refine boxE_ 1 #[.slice A0_0 l0_0.length c0_0, .int .i64 a0_1, .slice A0_2 l0_2.length c0_2] 25 ?_; intro g1 hg w7 hbox hb; have B0 := a_ (hbox); have E0 := a_ ((gE_ hg : w.heap.size ≤ g1)); replace HB := a_ (below_step hB_ hb); clear hb hbox hg) | ((with_reducible refine gate_dst (N := 2) rfl ?_); refine boxE_ 2 #[.int .i64 0, .int .i64 0] 49 ?_; intro g0 hg w8 hbox hb; have B1 := a_ (hbox); have E1 := a_ ((gE_ hg : w.heap.size ≤ g0)); replace HB := a_ (below_step hC_ hb); have N0 := a_ ((bL_ B0.out hg : g1 ≠ g0)); have N1 := a_ ((bG_ B0.out hg : g0 ≠ g1)); replace B0 := a_ (bB_ B0.out hb); clear hb hbox hg; have m2 := N0.out; have n2 := N1.out; obtain ⟨z13, z14, z15, f13, f14, f15⟩ := bx3_ B0.out) | ((with_reducible refine gate_callee (f := 38) rfl ?_); refine goesL_ _ rfl rfl Tryz.func38 (by kernel_rfl) rfl #[.agg #[.slice A0_0 l0_0.length c0_0, .int .i64 a0_1, .slice A0_2 l0_2.length c0_2]] rfl hL_ ?_; (with_reducible refine (next_Marks.calls k _ _ l0_0 a0_1 _ _ l0_2 t1 t0 _ ?s1 ?s2 ?s3 ?s4 A2.out (by first | exact hG | exact GOK.below hG hC_)).mono ?_); (case s1 => exact cB_ HR0_0.out); (case s2 => exact HC0_0.out); (case s3 => exact cB_ HR0_2.out); (case s4 => exact HC0_2.out); rintro e w1 ⟨v0, rfl, ho0, hb⟩; refine ⟨_, rfl, ?_⟩; have P0 := a_ (Kd.R_lower ho0 (below_size hC_)); replace B0 := a_ (bB_ B0.out hb); replace B1 := a_ (bB_ B1.out hb); replace HB := a_ (below_step hC_ hb); (try clear hb); (try clear hb2); (try clear hk); (try clear hi); (try clear ho0); obtain ⟨z16, z17, z18, f16, f17, f18⟩ := bx3_ B0.out) | (go_at_call 39; (with_reducible refine (next_Way.calls a0_1 true _ A4.out).mono ?_); rintro e w' ⟨rfl, ⟨nd, rfl⟩⟩; (try (rw [drewN_self w1]; generalize hq_ : World.drewN w1 _ = w1; replace P0 : Aside0 (Kd.R (Kd.int .i64) 3 w1 w.heap.size (fun _ => True) v0 t1) := ⟨by rw [← hq_]; exact (hR_ P0.out)⟩; replace B0 : Aside0 (w1.heap[g1]? = some (.cells #[.slice A0_0 l0_0.length c0_0, .int .i64 a0_1, .slice A0_2 l0_2.length c0_2] 25 (0, 0))) := ⟨by rw [← hq_]; exact (hK_ B0.out)⟩; replace B1 : Aside0 (w1.heap[g0]? = some (.cells #[.int .i64 0, .int .i64 0] 49 (0, 0))) := ⟨by rw [← hq_]; exact (hK_ B1.out)⟩; replace HB : Aside0 (Below w.heap.size w w1) := ⟨by rw [← hq_]; exact hC_⟩; clear hq_; (try have hcu0_0 := bc0_ B0.out); (try have hfu0_0 := blk_frozen B0.out 0); (try have hcu0_1 := bc1_ B0.out); (try have hfu0_1 := blk_frozen B0.out 1); (try have hcu0_2 := bc2_ B0.out); (try have hfu0_2 := blk_frozen B0.out 2); (try have hcu1_0 := bc0_ B1.out); (try have hfu1_0 := blk_frozen B1.out 0); (try have hcu1_1 := bc1_ B1.out); (try have hfu1_1 := blk_frozen B1.out 1))); obtain ⟨a0, o0, e0⟩ := Kd.R_slice P0.out; subst e0) | ((with_reducible refine gate_callee (f := 37) rfl ?_); refine goesL_ (some 25) rfl rfl Tryz.func37 (by kernel_rfl) rfl #[.int .i64 a0_1, .slice A0_0 l0_0.length c0_0, .slice a0 t1.length o0] rfl hL_ ?_; (with_reducible refine (next_Ask.calls k a0_1 _ _ l0_0 _ _ t1 t2 t3 _ ?s1 ?s2 ?s3 ?s4 A6.out (by first | exact hG | exact GOK.below hG hC_)).mono ?_); (case s1 => exact cB_ HR0_0.out); (case s2 => exact HC0_0.out); (case s3 => exact cC_ (Kd.R_reads' P0.out).2.2); (case s4 => exact (Kd.R_reads' P0.out).2.1); rintro e w9 ⟨rfl, hb⟩; refine ⟨_, rfl, ?_⟩; replace P0 := a_ (Kd.R_below (hR_ P0.out) hb); replace B0 := a_ (bB_ B0.out hb); replace B1 := a_ (bB_ B1.out hb); replace HB := a_ (below_step hC_ hb); (try clear hb); (try clear hb2); (try clear hk); (try clear hi); obtain ⟨z19, z20, f19, f20⟩ := bx2_ B1.out))
 refine bodyPost_ret (results_ct rfl _ _ g0 49 #[.int .i64 t2, .int .i64 t3] (0, 0) _ rfl (bP_ (bP_ (hK_ B1.out))) Tryz.underlying49 rfl (by kernel_rfl)) rfl ?_
 exact ⟨hV_, hC_⟩
set_option maxHeartbeats 8000000
set_option maxRecDepth 100000
attribute [local go_sem] max2_int min2_int max_two min_two max_three min_three max_four min_four   -- for this text's walks alone
set_option linter.unusedVariables false
set_option linter.unusedSimpArgs false

/-- a row whose elements are another row's, as they lay in w0 -/
def borK {α : Type} (w0 : World) (d : Kd α) : Kd α where
 sz := d.sz
 E := d.E
 K := fun _ x cs => d.K w0 x cs
 M := fun _ _ _ x cs => d.K w0 x cs
 K_len := fun h => d.K_len h
 K_one := fun h => d.K_one h
 K_below := fun _ h => h
 K_of_M := fun h => h
 M_mono := fun _ h => h
 M_bound := fun h => h
 M_move := fun _ h => h
 M_lower := fun _ h => h
/-- the same, some of its elements made anew, each apart from the others (f) -/
def mixK {α : Type} (w0 : World) (f : Nat → Nat) (d : Kd α) : Kd (α × Option Nat) where
 sz := d.sz
 E := d.E
 K := fun w x cs => match x.2 with | some _ => d.K w x.1 cs | none => d.K w0 x.1 cs
 M := fun w base ok x cs => match x.2 with | some i => d.M w base (fun k => ok k ∧ f k = i) x.1 cs | none => d.K w0 x.1 cs
 K_len := by rintro w ⟨x, _ | i⟩ cs h <;> exact d.K_len h
 K_one := by rintro w ⟨x, _ | i⟩ cs h <;> exact d.K_one h
 K_below := by
  rintro w w1 ⟨x, _ | i⟩ cs hb h
  · exact h
  · exact d.K_below hb h
 K_of_M := by
  rintro w base ok ⟨x, _ | i⟩ cs h
  · exact h
  · exact d.K_of_M h
 M_mono := by
  rintro w base ok ok' ⟨x, _ | i⟩ cs hok h
  · exact h
  · exact d.M_mono (fun k hk => ⟨hok k hk.1, hk.2⟩) h
 M_bound := by
  rintro w base ok ⟨x, _ | i⟩ cs h
  · exact h
  · exact d.M_mono (fun _ hk => ⟨⟨hk.1.1, hk.2⟩, hk.1.2⟩) (d.M_bound h)
 M_move := by
  rintro w w1 base ok ⟨x, _ | i⟩ cs hm h
  · exact h
  · exact d.M_move (fun k hk => hm k hk.1) h
 M_lower := by
  rintro w base base' ok ⟨x, _ | i⟩ cs hb h
  · exact h
  · exact d.M_lower hb h
theorem mix_tag {α : Type} {w0 : World} {f f' : Nat → Nat} {d : Kd α} {e : Nat} {w : World} {base : Nat} {ok : Nat → Prop} {v : Value} {xs : List (α × Option Nat)} (h : (mixK w0 f d).R e w base ok v xs) (hf : ∀ k, k < w.heap.size → f' k = f k) : (mixK w0 f' d).R e w base ok v xs := by
 obtain ⟨h0, inner, ho, hr⟩ := h
 refine ⟨h0, inner, ho, hr.imp_ ?_⟩
 rintro ⟨x, _ | i⟩ cs h
 · exact h
 · exact d.M_mono (fun k hk => ⟨hk.1.1, (hf k hk.2.2.1).trans hk.1.2⟩) (d.M_bound h)
def mixL {α : Type} (l : List α) (n : Nat) : List (α × Option Nat) := l.zipIdx.map fun p => (p.1, if p.2 < n then some p.2 else none)
theorem mixL_len {α : Type} (l : List α) (n : Nat) : (mixL l n).length = l.length := by simp [mixL]
theorem mixL_at {α : Type} (l : List α) (n j : Nat) : (mixL l n)[j]? = (l[j]?).map fun x => (x, if j < n then some j else none) := by
 unfold mixL
 rw [List.getElem?_map, List.getElem?_zipIdx, Option.map_map, Nat.zero_add]
 rfl
theorem mixL_set {α : Type} (l : List α) (i : Nat) (x : α) (h : l[i]? = some x) : (mixL l i).set i (x, some i) = mixL l (i + 1) := by
 apply List.ext_getElem?
 intro j
 rw [List.getElem?_set, mixL_at, mixL_at, mixL_len]
 by_cases c : i = j
 case neg =>
  rw [if_neg c]
  congr 1
  funext x
  by_cases d : j < i
  case pos =>
   rw [if_pos d, if_pos (by omega)]
  rw [if_neg d, if_neg (by omega)]
 subst c
 have hl : i < l.length := (List.getElem?_eq_some_iff.1 h).1
 rw [if_pos rfl, if_pos hl, h, Option.map_some, if_pos (Nat.lt_succ_self i)]
theorem mix_start {α : Type} {w0 : World} {f : Nat → Nat} {d : Kd α} {e : Nat} {w : World} {base : Nat} {ok : Nat → Prop} {v : Value} {xs : List α} (h : (borK w0 d).R e w base ok v xs) : (mixK w0 f d).R e w base ok v (mixL xs 0) := by
 obtain ⟨h0, inner, ho, hl, hr⟩ := h
 refine ⟨h0, inner, by rw [mixL_len]; exact ho, by rw [mixL_len]; exact hl, fun j p hj => ?_⟩
 rw [mixL_at] at hj
 obtain ⟨x, hx, rfl⟩ := Option.map_eq_some_iff.1 hj
 rw [if_neg (Nat.not_lt_zero j)]
 exact hr j x hx
theorem mix_end {α : Type} {w0 : World} {f : Nat → Nat} {d : Kd α} {e : Nat} {w : World} {base : Nat} {ok : Nat → Prop} {v : Value} {xs : List α} (h : (mixK w0 f d).R e w base ok v (mixL xs xs.length)) : Kd.S d e w base ok v xs := by
 obtain ⟨h0, inner, ho, hl, hr⟩ := h
 rw [mixL_len] at ho hl
 refine ⟨f, h0, inner, by rw [List.length_zipIdx]; exact ho, by rw [List.length_zipIdx]; exact hl, fun j p hj => ?_⟩
 rw [List.getElem?_zipIdx, Nat.zero_add] at hj
 obtain ⟨x, hx, rfl⟩ := Option.map_eq_some_iff.1 hj
 have h2 := hr j (x, some j) (by rw [mixL_at, hx, Option.map_some, if_pos (List.getElem?_eq_some_iff.1 hx).1])
 exact h2
theorem clN.calls (A : Option Addr) (c : Nat) (xs : List S66) (w0 w : World) (hB0 : Below w0.heap.size w0 w) (hC : Kd.C k66 w0 A xs.length xs) (hl : xs.length * 56 ≤ 140737488355328) :
 Calls Tryz.prog 40 #[.slice A xs.length c] w fun e w' => ∃ v, e = .returned v ∧ (borK w0 k66).R 66 w' w.heap.size (fun _ => True) v xs ∧ Below w.heap.size w w' := by
 have q_ : ∀ (w : World) (a : Option Addr) (n c n' c' : Nat), (binOp .eql 22 (.slice a n c) (.slice none n' c')).run Tryz.prog w = .ok (.bool a.isNone) w := fun w a n c n' c' => Lib.run_eql_slice_nil w _ _ a n c n' c' Tryz.underlying22
 cases A with
 | none =>
  have h0 : xs.length = 0 := by
   rcases Nat.eq_zero_or_pos xs.length with h0 | h0
   · exact h0
   · obtain ⟨ad, h, _⟩ := hC.2.2 h0
     cases h
  obtain rfl : xs = [] := List.eq_nil_of_length_eq_zero h0
  clear hC hl h0 hB0
  go_enter Tryz.func40, Tryz.ntmps40
  go_wp2
  go_ret
  exact ⟨_, rfl, Kd.R_nil _ _ _ _ _, Below.refl _ _⟩
 | some ad =>
  have HC := a_ hC
  have HB0 := a_ hB0
  have HL := a_ hl
  clear hC hl hB0
  go_enter Tryz.func40, Tryz.ntmps40
  go_wp2_with (first
   | ((with_reducible refine gate_dst (N := 5) rfl ?_); refine Kd.R_lit (borK w0 k66) _ 66 ?hg (N := 5) ?hd (xs := ([] : List S66)) (inner := []) (ok := fun _ => True) (okp := fun _ => True) ?hr ?hp (fun _ hk => hk) trivial (Below.refl _ _) (Nat.le_refl _) (by simp) ?_; (case hd => rfl); (case hg => rfl); (case hr => first | (go_simp; done) | (go_simp; rfl)); (case hp => exact (Reps.none _ _)); intro v5 w5 ho hb hg_ hnew_; have HO := a_ ho; have HB := a_ hb; clear ho hb hg_ hnew_)
   | ((with_reducible refine gate_builtin (b := .append) (xs := #[.tmp 5, .tmp 6]) rfl ?_); at_builtin; refine Kd.R_append_rows (borK w0 k66) (Rr := Kd.K k66 w0) (w0 := w) w.heap.size rfl (.tmp 5) (.tmp 6) 22 66 (.agg #[(.int .i64 0), (.int .i64 0), (.slice none 0 0), (.string ⟨#[]⟩)]) 56 rfl Tryz.underlying22 info66 rfl (show 0 < 4 by decide) (by omega) v5 [] xs _ _ _ (fun _ => True) (fun _ => False) rfl rfl HO.out (HC.out.imp_ (below_step HB0.out HB.out) (fun _ _ h => h)) (fun _ _ h => h) (fun _ h => h.elim) (fun _ _ => trivial) HB.out HB.out.size (by have := HL.out; simp only [List.length_nil, Nat.zero_add]; exact this) ?_; intro v7 w7 ho hb hg hat; rw [List.nil_append] at ho; have P0 := a_ ho; have HB2 := a_ hb; clear ho hb hg hat HO HB))
  go_ret
  exact ⟨_, rfl, P0.out, HB2.out⟩
theorem clA.calls (A : Option Addr) (c : Nat) (xs : List S53) (w0 w : World) (hB0 : Below w0.heap.size w0 w) (hC : Kd.C k53 w0 A xs.length xs) (hl : xs.length * 16 ≤ 140737488355328) :
 Calls Tryz.prog 41 #[.slice A xs.length c] w fun e w' => ∃ v, e = .returned v ∧ (borK w0 k53).R 53 w' w.heap.size (fun _ => True) v xs ∧ Below w.heap.size w w' := by
 have q_ : ∀ (w : World) (a : Option Addr) (n c n' c' : Nat), (binOp .eql 23 (.slice a n c) (.slice none n' c')).run Tryz.prog w = .ok (.bool a.isNone) w := fun w a n c n' c' => Lib.run_eql_slice_nil w _ _ a n c n' c' Tryz.underlying23
 cases A with
 | none =>
  have h0 : xs.length = 0 := by
   rcases Nat.eq_zero_or_pos xs.length with h0 | h0
   · exact h0
   · obtain ⟨ad, h, _⟩ := hC.2.2 h0
     cases h
  obtain rfl : xs = [] := List.eq_nil_of_length_eq_zero h0
  clear hC hl h0 hB0
  go_enter Tryz.func41, Tryz.ntmps41
  go_wp2
  go_ret
  exact ⟨_, rfl, Kd.R_nil _ _ _ _ _, Below.refl _ _⟩
 | some ad =>
  have HC := a_ hC
  have HB0 := a_ hB0
  have HL := a_ hl
  clear hC hl hB0
  go_enter Tryz.func41, Tryz.ntmps41
  go_wp2_with (first
   | ((with_reducible refine gate_dst (N := 5) rfl ?_); refine Kd.R_lit (borK w0 k53) _ 53 ?hg (N := 5) ?hd (xs := ([] : List S53)) (inner := []) (ok := fun _ => True) (okp := fun _ => True) ?hr ?hp (fun _ hk => hk) trivial (Below.refl _ _) (Nat.le_refl _) (by simp) ?_; (case hd => rfl); (case hg => rfl); (case hr => first | (go_simp; done) | (go_simp; rfl)); (case hp => exact (Reps.none _ _)); intro v5 w5 ho hb hg_ hnew_; have HO := a_ ho; have HB := a_ hb; clear ho hb hg_ hnew_)
   | ((with_reducible refine gate_builtin (b := .append) (xs := #[.tmp 5, .tmp 6]) rfl ?_); at_builtin; refine Kd.R_append_rows (borK w0 k53) (Rr := Kd.K k53 w0) (w0 := w) w.heap.size rfl (.tmp 5) (.tmp 6) 23 53 (.agg #[(.int .i64 0), (.int .i64 0)]) 16 rfl Tryz.underlying23 info53 rfl (show 0 < 2 by decide) (by omega) v5 [] xs _ _ _ (fun _ => True) (fun _ => False) rfl rfl HO.out (HC.out.imp_ (below_step HB0.out HB.out) (fun _ _ h => h)) (fun _ _ h => h) (fun _ h => h.elim) (fun _ _ => trivial) HB.out HB.out.size (by have := HL.out; simp only [List.length_nil, Nat.zero_add]; exact this) ?_; intro v7 w7 ho hb hg hat; rw [List.nil_append] at ho; have P0 := a_ ho; have HB2 := a_ hb; clear ho hb hg hat HO HB))
  go_ret
  exact ⟨_, rfl, P0.out, HB2.out⟩
theorem clS.calls (A : Option Addr) (c : Nat) (xs : List ByteArray) (w0 w : World) (hB0 : Below w0.heap.size w0 w) (hC : Kd.C Kd.string w0 A xs.length xs) (hl : xs.length * 16 ≤ 140737488355328) :
 Calls Tryz.prog 42 #[.slice A xs.length c] w fun e w' => ∃ v, e = .returned v ∧ (borK w0 Kd.string).R 9 w' w.heap.size (fun _ => True) v xs ∧ Below w.heap.size w w' := by
 have q_ : ∀ (w : World) (a : Option Addr) (n c n' c' : Nat), (binOp .eql 64 (.slice a n c) (.slice none n' c')).run Tryz.prog w = .ok (.bool a.isNone) w := fun w a n c n' c' => Lib.run_eql_slice_nil w _ _ a n c n' c' Tryz.underlying64
 cases A with
 | none =>
  have h0 : xs.length = 0 := by
   rcases Nat.eq_zero_or_pos xs.length with h0 | h0
   · exact h0
   · obtain ⟨ad, h, _⟩ := hC.2.2 h0
     cases h
  obtain rfl : xs = [] := List.eq_nil_of_length_eq_zero h0
  clear hC hl h0 hB0
  go_enter Tryz.func42, Tryz.ntmps42
  go_wp2
  go_ret
  exact ⟨_, rfl, Kd.R_nil _ _ _ _ _, Below.refl _ _⟩
 | some ad =>
  have HC := a_ hC
  have HB0 := a_ hB0
  have HL := a_ hl
  clear hC hl hB0
  go_enter Tryz.func42, Tryz.ntmps42
  go_wp2_with (first
   | ((with_reducible refine gate_dst (N := 5) rfl ?_); refine Kd.R_lit (borK w0 Kd.string) _ 9 ?hg (N := 5) ?hd (xs := ([] : List ByteArray)) (inner := []) (ok := fun _ => True) (okp := fun _ => True) ?hr ?hp (fun _ hk => hk) trivial (Below.refl _ _) (Nat.le_refl _) (by simp) ?_; (case hd => rfl); (case hg => rfl); (case hr => first | (go_simp; done) | (go_simp; rfl)); (case hp => exact (Reps.none _ _)); intro v5 w5 ho hb hg_ hnew_; have HO := a_ ho; have HB := a_ hb; clear ho hb hg_ hnew_)
   | ((with_reducible refine gate_builtin (b := .append) (xs := #[.tmp 5, .tmp 6]) rfl ?_); at_builtin; refine Kd.R_append_rows (borK w0 Kd.string) (Rr := Kd.K Kd.string w0) (w0 := w) w.heap.size rfl (.tmp 5) (.tmp 6) 64 9 (.string ⟨#[]⟩) 16 rfl Tryz.underlying64 info9 rfl (show 0 < 1 by decide) (by omega) v5 [] xs _ _ _ (fun _ => True) (fun _ => False) rfl rfl HO.out (HC.out.imp_ (below_step HB0.out HB.out) (fun _ _ h => h)) (fun _ _ h => h) (fun _ h => h.elim) (fun _ _ => trivial) HB.out HB.out.size (by have := HL.out; simp only [List.length_nil, Nat.zero_add]; exact this) ?_; intro v7 w7 ho hb hg hat; rw [List.nil_append] at ho; have P0 := a_ ho; have HB2 := a_ hb; clear ho hb hg hat HO HB))
  go_ret
  exact ⟨_, rfl, P0.out, HB2.out⟩
def sc_fit (l0 : List S66) (l2 : List S53) : Bool := decide (l0.length ≤ 2513169434916) && (decide (l2.length ≤ 8796093022208) && l0.all fun x => decide (x.f2.length ≤ 8796093022208))
def session_Copy.f (l0_0 : List S66) (a0_1 : Int) (l0_2 : List S53) : Option (List S66 × Int × List S53) := if sc_fit l0_0 l0_2 = true then some (l0_0, a0_1, l0_2) else none
def session_Copy.T1 : Bool × List (List Nat × List Nat) := (true, [([], []), ([0], [0]), ([1], [1]), ([], []), ([3], [3]), ([4, 2], [4]), ([0, 1, 2, 3, 4], []), ([6, 2, 5, 0, 1, 2, 3, 4], [2, 6]), ([0, 1, 2, 3, 4, 5, 6, 7], []), ([8, 5, 7, 0, 1, 2, 3, 4, 5, 6, 7], [5, 8])])
def session_Copy.B1 : List Nat := [0, 1, 3, 0, 8, 31, 31, 127, 255, 511]
theorem session_Copy.tab1 : rtab .any (opsOf Tryz.f24 1) = session_Copy.T1 := by kernel_rfl
theorem session_Copy.bits1 : waitsOk session_Copy.T1.2 session_Copy.B1 = true := by kernel_rfl
def session_Copy.T5 : Bool × List (List Nat × List Nat) := (true, [([], []), ([0], [0]), ([], []), ([], []), ([3], [3]), ([], []), ([4, 5], [4, 5]), ([6], [6]), ([7], [7]), ([8], [8]), ([1, 2, 0, 1, 2, 3, 4, 5, 6, 7, 8, 9], [1, 2]), ([10, 0, 1, 2, 3, 4, 5, 6, 7, 8, 9], [10]), ([11, 9, 9, 0, 1, 2, 3, 4, 5, 6, 7, 8, 9], [9, 11])])
def session_Copy.B5 : List Nat := [0, 1, 0, 0, 8, 0, 56, 120, 248, 504, 1023, 2047, 4095]
theorem session_Copy.tab5 : rtab .any (opsOf Tryz.f24 5) = session_Copy.T5 := by kernel_rfl
theorem session_Copy.bits5 : waitsOk session_Copy.T5.2 session_Copy.B5 = true := by kernel_rfl
theorem mixL_rd (l : List S66) (x : Int) (h0 : 0 ≤ x) (h1 : x < (l.length : Int)) : (mixL l x.toNat).getD x.toNat (z66, none) = (rd_T66 l x, none) := by
 have hl : x.toNat < l.length := by omega
 rw [List.getD_eq_getElem?_getD, mixL_at, List.getElem?_eq_getElem hl, Option.map_some, if_neg (Nat.lt_irrefl _)]
 show (_, _) = (List.getD _ _ _, _)
 rw [List.getD_eq_getElem?_getD, List.getElem?_eq_getElem hl]; rfl
theorem rd_mem_N (l : List S66) (x : Int) (h0 : 0 ≤ x) (h1 : x < (l.length : Int)) : rd_T66 l x ∈ l := by
 show List.getD _ _ _ ∈ _
 rw [List.getD_eq_getElem?_getD, List.getElem?_eq_getElem (show x.toNat < l.length by omega)]
 exact List.getElem_mem _
theorem rd_some_N (l : List S66) (x : Int) (h0 : 0 ≤ x) (h1 : x < (l.length : Int)) : l[x.toNat]? = some (rd_T66 l x) := by
 have hl : x.toNat < l.length := by omega
 rw [List.getElem?_eq_getElem hl]
 show some _ = some (List.getD _ _ _)
 rw [List.getD_eq_getElem?_getD, List.getElem?_eq_getElem hl]; rfl
theorem wsuccN (x : Int) (h0 : 0 ≤ x) (h1 : x ≤ 9223372036854775806) : wrap64 (x + 1) = x + 1 := by unfold wrap64; omega
theorem sc_spec {l0 : List S66} {l2 : List S53} (h : sc_fit l0 l2 = true) : l0.length ≤ 2513169434916 ∧ l2.length ≤ 8796093022208 ∧ ∀ x ∈ l0, x.f2.length ≤ 8796093022208 := by
 unfold sc_fit at h
 rw [Bool.and_eq_true, Bool.and_eq_true, decide_eq_true_iff, decide_eq_true_iff] at h
 exact ⟨h.1, h.2.1, fun x hx => of_decide_eq_true (List.all_eq_true.1 h.2.2 x hx)⟩
theorem borA {w0 w : World} {e base : Nat} {ok : Nat → Prop} {v : Value} {xs : List S53} (h : (borK w0 k53).R e w base ok v xs) : k53.R e w base ok v xs := Kd.R_imp rfl (fun _ _ _ _ _ h => h) h
theorem borS {w0 w : World} {e base : Nat} {ok : Nat → Prop} {v : Value} {xs : List ByteArray} (h : (borK w0 Kd.string).R e w base ok v xs) : Kd.string.R e w base ok v xs := Kd.R_imp rfl (fun _ _ _ _ _ h => h) h
theorem session_Copy.callsS (A0_0 : Option Addr) (c0_0 : Nat) (l0_0 : List S66) (a0_1 : Int) (A0_2 : Option Addr) (c0_2 : Nat) (l0_2 : List S53) (w : World) (hr0_0 : Kd.C k66 w A0_0 l0_0.length l0_0) (hc0_0 : l0_0.length ≤ c0_0) (hr0_2 : Kd.C k53 w A0_2 l0_2.length l0_2) (hc0_2 : l0_2.length ≤ c0_2) (hfit : sc_fit l0_0 l0_2 = true) :
 Calls Tryz.prog 24 #[.agg #[.slice A0_0 l0_0.length c0_0, .int .i64 a0_1, .slice A0_2 l0_2.length c0_2]] w fun e w' => ∃ v0_ v2_ : Value, e = .returned (.agg #[v0_, .int .i64 a0_1, v2_]) ∧ Kd.S k66 66 w' w.heap.size (fun _ => True) v0_ l0_0 ∧ Kd.R k53 53 w' w.heap.size (fun _ => True) v2_ l0_2 ∧ Below w.heap.size w w' := by
 obtain ⟨h0, h1, hxa⟩ := sc_spec hfit
 have HR0 := a_ hr0_0
 have HC0 := a_ hc0_0
 have HR2 := a_ hr0_2
 have HC2 := a_ hc0_2
 have L0 := a_ (show l0_0.length * 56 ≤ 140737488355328 by omega)
 have L1 := a_ (show l0_2.length * 16 ≤ 140737488355328 by omega)
 have HLa := a_ hxa
 have hmx := a_ h0
 clear hr0_0 hc0_0 hr0_2 hc0_2 h0 h1 hxa hfit
 have HB := a_ (Below.refl w.heap.size w)
 have hu := Tryz.underlying25
 go_enter Tryz.func24, Tryz.ntmps24
 go_wp2_with (first
  | ((with_reducible refine gate_dst (N := 1) rfl ?_); refine boxE_ 1 #[.slice A0_0 l0_0.length c0_0, .int .i64 a0_1, .slice A0_2 l0_2.length c0_2] 25 ?_; intro g0 hg w1 hbox hb; have E1 := a_ (gE_ hg : w.heap.size ≤ g0); have n0_ := a_ (below_step hB_ hb); clear HB; have HB := n0_; have B0 := a_ hbox; clear n0_ hg hbox hb)
  | ((with_reducible refine gate_dst (N := 2) rfl ?_); refine boxE_ 2 #[.slice none 0 0, .int .i64 0, .slice none 0 0] 25 ?_; intro g1 hg w2 hbox hb; have E0 := a_ (gE_ hg : w.heap.size ≤ g1); have NB := a_ (bL_ B0.out hg : g0 ≠ g1); have n0_ := a_ (below_step hC_ hb); have n1_ := a_ (bB_ B0.out hb); clear HB B0; have HB := n0_; have B0 := n1_; have B1 := a_ hbox; clear n0_ n1_ hg hbox hb))
 replace B0 := a_ (blk_drew B0.out)
 replace B1 := a_ (blk_drew B1.out)
 replace HB := a_ (below_drew1 HB.out)
 refine start_ (n := 10) (S := fun w' => w'.cell? ⟨g0, 0, none⟩ = some (.slice A0_0 l0_0.length c0_0) ∧ w'.cell? ⟨g0, 2, none⟩ = some (.slice A0_2 l0_2.length c0_2)) (ds := [7, 9]) #[false, false, false, false, false, false, false, false, false, false] (by kernel_rfl) rfl rfl ⟨bc0_ B0.out, bc2_ B0.out⟩ (fun hHeld => ?_)
 refine with_tabW session_Copy.tab1 session_Copy.bits1 (fun HT_ HW_ => ?_)
 generalize w2.drew = w3 at B0 B1 HB hHeld ⊢
 refine pB_ 0 4 HT_.out ?_
 refine pB_ 3 7 HT_.out ?_
 refine tB_ 1 5 HT_.out HW_.out hHeld ?_
 refine tB_ 4 8 HT_.out HW_.out hHeld ?_
 refine one_ (i := 2) (N := some 6) #[true, true, true, true, true, false, false, false, false, false] rfl rfl (one_of HT_.out (by kernel_rfl)) (by decide) (fun K hK => ?_)
 refine goes_ Tryz.func40 (by kernel_rfl) rfl #[.slice A0_0 l0_0.length c0_0] (by rfl) rfl rfl hL_ ?_
 refine (clN.calls A0_0 c0_0 l0_0 w _ HB.out HR0.out L0.out).mono ?_
 rintro e w4 ⟨v0, rfl, ho0, hb⟩
 refine ⟨_, rfl, ?_⟩
 have P1 := a_ (Kd.R_lower ho0 HB.out.size)
 have BK1' := a_ (blk_below B0.out hb)
 have BK2' := a_ (blk_below B1.out hb)
 have HB' := a_ (below_step HB.out hb)
 clear B0 B1 ho0 hb
 obtain ⟨Ao, co, e0⟩ := Kd.R_slice P1.out
 subst e0
 refine hK.out _ _ ⟨bc0_ BK1'.out, bc2_ BK1'.out⟩ (fun hHeld => ?_)
 clear hK K
 refine norm_ (a' := ?_) ?_ ?_
 rotate_left
 · show Act.put _ (some 6) _ = _
   simp only [Act.put, List.setIfInBounds_toArray, List.set_cons_zero, List.set_cons_succ, i64_w, i32_w]
   rfl
 refine pB_ 6 10 HT_.out ?_
 refine one_ (i := 5) (N := some 9) #[true, true, true, true, true, true, true, false, false, false] rfl rfl (one_of HT_.out (by kernel_rfl)) (by decide) (fun K hK => ?_)
 refine goes_ Tryz.func41 (by kernel_rfl) rfl #[.slice A0_2 l0_2.length c0_2] (by rfl) rfl rfl hL_ ?_
 refine (clA.calls A0_2 c0_2 l0_2 w _ HB'.out HR2.out L1.out).mono ?_
 rintro e w5 ⟨v2, rfl, ho2, hb⟩
 refine ⟨_, rfl, ?_⟩
 have P0 := a_ (borA (Kd.R_lower ho2 HB'.out.size))
 have HO0' := a_ (Kd.R_below P1.out hb)
 have B0 := a_ (blk_below BK1'.out hb)
 have B1 := a_ (blk_below BK2'.out hb)
 have HB5 := a_ (below_step HB'.out hb)
 clear BK1' BK2' ho2 hb P1 HB'
 obtain ⟨a0, o0, e2⟩ := Kd.R_slice P0.out
 subst e2
 refine hK.out _ _ ⟨bc0_ B0.out, bc2_ B0.out⟩ (fun hHeld => ?_)
 clear hK K
 refine norm_ (a' := ?_) ?_ ?_
 rotate_left
 · show Act.put _ (some 9) _ = _
   simp only [Act.put, List.setIfInBounds_toArray, List.set_cons_zero, List.set_cons_succ, i64_w, i32_w]
   rfl
 refine last_ (i := 7) (N := none) #[true, true, true, true, true, true, true, true, false, false] rfl rfl (one_of HT_.out (by kernel_rfl)) (by decide) (fun K hK => ?_)
 obtain ⟨hc0, hc1, hc2, hf0, hf1, hf2⟩ := bx3_ B0.out
 refine skip_ (w1 := ?_) (by rfl) rfl ?_ ?_
 rotate_left
 · go_simp
   rfl
 refine hK.out _ _ ?_
 clear hK K hc0 hc1 hc2 hf0 hf1 hf2 hHeld
 have n0_ : Aside0 _ := a_ (bP_ (u := .slice Ao l0_0.length co) (i := 0) (cs' := #[.slice Ao l0_0.length co, .int .i64 a0_1, .slice A0_2 l0_2.length c0_2]) B0.out)
 have n1_ := a_ (bF_ (p := ⟨g0, 0, none⟩) (u := .slice Ao l0_0.length co) B1.out (Ne.symm NB.out))
 have n2_ := a_ (Kd.R_drop (rF_ (j := 0) (u := .slice Ao l0_0.length co) (Kd.R_types HO0'.out B0.out (show ∀ q, q ∈ ([66, 9] : List Nat) → q ≠ 25 by decide))))
 have n3_ := a_ (Kd.R_drop (rF_ (j := 0) (u := .slice Ao l0_0.length co) (Kd.R_types P0.out B0.out (by decide))))
 have n4_ := a_ (below_set (j := 0) (v := .slice Ao l0_0.length co) HB5.out E1.out)
 clear B0 B1 HO0' P0 HB5
 have B0 := n0_
 have B1 := n1_
 have HO0' := n2_
 have P0 := n3_
 have HB5 := n4_
 clear n0_ n1_ n2_ n3_ n4_
 generalize w5.setCell ⟨g0, 0, none⟩ (.slice Ao l0_0.length co) = w6 at B0 B1 HO0' P0 HB5 ⊢
 refine pB_ 8 11 HT_.out ?_
 refine last_ (i := 9) (N := none) #[true, true, true, true, true, true, true, true, true, true] rfl rfl (one_of HT_.out (by kernel_rfl)) (by decide) (fun K hK => ?_)
 obtain ⟨hc0, hc1, hc2, hf0, hf1, hf2⟩ := bx3_ B0.out
 refine skip_ (w1 := ?_) (by rfl) rfl ?_ ?_
 rotate_left
 · go_simp
   rfl
 refine hK.out _ _ ?_
 clear hK K hc0 hc1 hc2 hf0 hf1 hf2
 have n0_ := a_ (bP_ (u := .slice a0 l0_2.length o0) (i := 2) (cs' := #[.slice Ao l0_0.length co, .int .i64 a0_1, .slice a0 l0_2.length o0]) B0.out)
 have n1_ := a_ (bF_ (p := ⟨g0, 2, none⟩) (u := .slice a0 l0_2.length o0) B1.out (Ne.symm NB.out))
 have n2_ := a_ (Kd.R_drop (rF_ (j := 2) (u := .slice a0 l0_2.length o0) (Kd.R_types HO0'.out B0.out (show ∀ q, q ∈ ([66, 9] : List Nat) → q ≠ 25 by decide))))
 have n3_ := a_ (Kd.R_drop (rF_ (j := 2) (u := .slice a0 l0_2.length o0) (Kd.R_types P0.out B0.out (by decide))))
 have n4_ := a_ (below_set (j := 2) (v := .slice a0 l0_2.length o0) HB5.out E1.out)
 clear B0 B1 HO0' P0 HB5
 have B0 := n0_
 have B1 := n1_
 have HO0' := n2_
 have P0 := n3_
 have HB5 := n4_
 clear n0_ n1_ n2_ n3_ n4_
 generalize w6.setCell ⟨g0, 2, none⟩ (.slice a0 l0_2.length o0) = w7 at B0 B1 HO0' P0 HB5 ⊢
 refine done_ (done_of HT_.out (by kernel_rfl)) ?_
 clear HT_ HW_
 have HM := a_ (mix_start (f := fun _ => 0) HO0'.out)
 clear HO0'
 obtain ⟨hc0, hc1, hc2, hf0, hf1, hf2⟩ := bx3_ B0.out
 go_wp2
 clear hc0 hc1 hc2 hf0 hf1 hf2
 go_loopw [15] (fun v wr => ∃ x : Int, v = .int .i64 x ∧ Aside0 (0 ≤ x ∧ x ≤ (l0_0.length : Int)) ∧ Aside0 (wr.heap[g0]? = some (.cells #[.slice Ao l0_0.length co, .int .i64 a0_1, .slice a0 l0_2.length o0] 25 (0, 0))) ∧ Aside0 (wr.heap[g1]? = some (.cells #[.slice none 0 0, .int .i64 0, .slice none 0 0] 25 (0, 0))) ∧ Aside0 (k53.R 53 wr w.heap.size (fun _ => True) (.slice a0 l0_2.length o0) l0_2) ∧ Aside0 (Below w.heap.size w wr) ∧ Aside0 (∃ f, (mixK w f k66).R 66 wr w.heap.size (fun _ => True) (.slice Ao l0_0.length co) (mixL l0_0 x.toNat))) (fun v _ => l0_0.length - (intOf v).toNat)
 case atStart => exact ⟨0, rfl, ⟨by omega, by omega⟩, B0, B1, P0, HB5, ⟨⟨_, HM.out⟩⟩⟩
 case round =>
  clear B0 B1 P0 HB5 HM
  obtain ⟨x, rfl, HX, B0, B1, P0, HB, HM⟩ := hrel
  by_cases hlt : x < (l0_0.length : Int)
  case neg =>
   have hltb := decide_eq_false hlt
   obtain ⟨f, hM⟩ := HM.out
   have hxl : x.toNat = l0_0.length := by have := HX.out; omega
   rw [hxl] at hM
   have hS := a_ (mix_end hM)
   obtain ⟨hc0, hc1, hc2, hf0, hf1, hf2⟩ := bx3_ B0.out
   obtain ⟨kc0, kc1, kc2, kf0, kf1, kf2⟩ := bx3_ B1.out
   have hn1 := NB.out
   have hn2 := Ne.symm NB.out
   clear hM HM hlt hxl
   go_wp2
   refine bodyPost_ret (results_cell_row rfl _ _ g1 25 #[.slice Ao l0_0.length co, .int .i64 a0_1, .slice a0 l0_2.length o0] (0, 0) _ rfl (bP_ (i := 2) (cs' := #[.slice Ao l0_0.length co, .int .i64 a0_1, .slice a0 l0_2.length o0]) (bP_ (i := 1) (cs' := #[.slice Ao l0_0.length co, .int .i64 a0_1, .slice none 0 0]) (bP_ (i := 0) (cs' := #[.slice Ao l0_0.length co, .int .i64 0, .slice none 0 0]) B1.out))) hu rfl (by kernel_rfl)) rfl ?_
   refine ⟨_, _, rfl, ?_, ?_, ?_⟩
   · exact Kd.S_mono (sF_ (sF_ (sF_ (Kd.S_types hS.out B1.out (show ∀ q, q ∈ ([66, 9] : List Nat) → q ≠ 25 by decide))))) (fun _ _ => trivial)
   · exact Kd.R_mono (rF_ (rF_ (rF_ (Kd.R_types P0.out B1.out (by decide))))) (fun _ _ => trivial)
   · exact below_set (below_set (below_set HB.out E0.out) E0.out) E0.out
  have hltb := decide_eq_true hlt
  obtain ⟨f, hM⟩ := HM.out
  have h0 := HX.out.1
  obtain ⟨g, cap, e, hbg, hgl, cells, hgc⟩ := Kd.R_form hM (by rw [mixL_len]; omega)
  rw [mixL_len] at e
  injection e with e1 e2_ e3
  subst e1 e3
  obtain ⟨c, hcl, hcM, hcc, hfz⟩ := Kd.R_elem hM (z66, none) x h0 (by omega)
  rw [mixL_rd l0_0 x h0 hlt] at hcM
  obtain ⟨A2e, c2e, rfl, hl2e, hC2e⟩ := k66_open (show k66.K w (rd_T66 l0_0 x) c from hcM)
  have hcell : wr.drew.cell? ⟨g, x.toNat * 4 + 2, none⟩ = some (.slice A2e (rd_T66 l0_0 x).f2.length c2e) := hcc 2 _ rfl
  have HF := a_ (show (rd_T66 l0_0 x).f2.length * 16 ≤ 140737488355328 by have := HLa.out _ (rd_mem_N l0_0 x h0 hlt); omega)
  have HE := a_ (And.intro h0 (And.intro hlt (And.intro hbg (And.intro hl2e hC2e))))
  have HM' := a_ (Kd.R_drew hM)
  have HCC := a_ (show ∀ j u, [Value.int .i64 (rd_T66 l0_0 x).f0, .int .i64 (rd_T66 l0_0 x).f1, .slice A2e (rd_T66 l0_0 x).f2.length c2e, .string (rd_T66 l0_0 x).f3][j]? = some u → wr.drew.cell? ⟨g, x.toNat * 4 + j, none⟩ = some u from hcc)
  have HGC := a_ (show wr.drew.heap[g]? = some (.cells cells 66 (0, 0)) from hgc)
  replace B0 := a_ (blk_drew B0.out)
  replace B1 := a_ (blk_drew B1.out)
  replace HB := a_ (below_drew1 HB.out)
  replace P0 := a_ (Kd.R_drew P0.out)
  clear HM hM hbg hgl hgc hcl hcM hcc hfz hl2e hC2e
  have hlt_ := eq_true hlt
  have hx0_ := eq_true h0
  have hu1 := Tryz.underlying66
  have hu2 := Tryz.underlying22
  clear hlt h0
  have X0 := a_ hcell
  clear hcell
  go_wp2
  have hcell := X0.out
  refine start_ (n := 13) (S := fun w' => w'.cell? ⟨g0, 0, none⟩ = some (.slice (some ⟨g, 0, none⟩) l0_0.length co) ∧ w'.cell? ⟨g, x.toNat * 4 + 2, none⟩ = some (.slice A2e (rd_T66 l0_0 x).f2.length c2e)) (ds := [12]) #[false, false, false, false, false, false, false, false, false, false, false, false, false] (by kernel_rfl) rfl rfl ⟨bc0_ B0.out, hcell⟩ (fun hHeld => ?_)
  refine with_tabW session_Copy.tab5 session_Copy.bits5 (fun HT_ HW_ => ?_)
  clear hcell X0
  generalize wr.drew = w3 at B0 B1 HB P0 HM' HCC HGC hHeld ⊢
  refine pB_ 0 18 HT_.out ?_
  refine pB_ 2 20 HT_.out ?_
  refine pB_ 3 21 HT_.out ?_
  refine pB_ 5 23 HT_.out ?_
  refine tB_ 1 19 HT_.out HW_.out hHeld ?_
  refine tB_ 4 22 HT_.out HW_.out hHeld ?_
  refine pB_ 6 24 HT_.out ?_
  refine pB_ 7 25 HT_.out ?_
  refine tB_ 8 26 HT_.out HW_.out hHeld ?_
  refine one_ (i := 9) (N := some 27) #[true, true, true, true, true, true, true, true, true, true, false, false, false] rfl rfl (one_of HT_.out (by kernel_rfl)) (by decide) (fun K hK => ?_)
  refine goes_ Tryz.func42 (by kernel_rfl) rfl #[.slice A2e (rd_T66 l0_0 x).f2.length c2e] (by rfl) rfl rfl hL_ ?_
  refine (clS.calls A2e c2e (rd_T66 l0_0 x).f2 w _ HB.out HE.out.2.2.2.2 HF.out).mono ?_
  rintro e w4 ⟨v5, rfl, ho, hb⟩
  refine ⟨_, rfl, ?_⟩
  have HOS := a_ (borS ho)
  obtain ⟨A5, c5, e5⟩ := Kd.R_slice HOS.out
  subst e5
  have n0_ := a_ (blk_below B0.out hb)
  have n1_ := a_ (blk_below B1.out hb)
  have n2_ := a_ (below_step HB.out hb)
  have n3_ := a_ (Kd.R_below P0.out hb)
  have n4_ := a_ (And.intro HM'.out hb)
  have HGL := a_ (blk_lt HGC.out)
  have n5_ := a_ (blk_below HGC.out hb)
  have HCC' := a_ (fun j u (hu : [Value.int .i64 (rd_T66 l0_0 x).f0, .int .i64 (rd_T66 l0_0 x).f1, .slice A2e (rd_T66 l0_0 x).f2.length c2e, .string (rd_T66 l0_0 x).f3][j]? = some u) => (hb.cell (World.block_lt_of_cell? w3 _ (HCC.out j u hu))).trans (HCC.out j u hu))
  clear B0 B1 HB P0 HM' HGC
  have B0 := n0_
  have B1 := n1_
  have HB := n2_
  have P0 := n3_
  have HM' := n4_
  have HGC := n5_
  clear n0_ n1_ n2_ n3_ n4_ n5_
  clear HCC ho hb
  refine hK.out _ _ ⟨bc0_ B0.out, HCC'.out 2 _ rfl⟩ (fun hHeld => ?_)
  clear hK K
  refine norm_ (a' := ?_) ?_ ?_
  rotate_left
  · show Act.put _ (some 27) _ = _
    simp only [Act.put, List.setIfInBounds_toArray, List.set_cons_zero, List.set_cons_succ, i64_w, i32_w]
    rfl
  refine pB_ 10 28 HT_.out ?_
  refine pB_ 11 29 HT_.out ?_
  refine last_ (i := 12) (N := none) #[true, true, true, true, true, true, true, true, true, true, true, true, true] rfl rfl (one_of HT_.out (by kernel_rfl)) (by decide) (fun K hK => ?_)
  have hcell := HCC'.out 2 _ rfl
  have hfrz := blk_frozen HGC.out (x.toNat * 4 + 2)
  refine skip_ (w1 := ?_) (by rfl) rfl ?_ ?_
  rotate_left
  · go_simp
    rfl
  refine hK.out _ _ ?_
  clear hK K hHeld
  refine done_ (done_of HT_.out (by kernel_rfl)) ?_
  go_wp2
  obtain ⟨h0, hlt, hbg, hl2e, hC2e⟩ := HE.out
  have hw : wrap64 (x + 1) = x + 1 := wsuccN x h0 (by have := hmx.out; omega)
  have hng1 : g0 ≠ g := blk_ne B0.out HGC.out (by decide)
  have hng2 : g1 ≠ g := blk_ne B1.out HGC.out (by decide)
  have hR' := Kd.R_below (mix_tag (f' := fun k => if k < w3.heap.size then f k else x.toNat) HM'.out.1 (fun k hk => by rw [if_pos hk])) HM'.out.2
  have hST : Kd.string.R 9 w4 w.heap.size (fun k => w3.heap.size ≤ k ∧ (if k < w3.heap.size then f k else x.toNat) = x.toNat) (.slice A5 (rd_T66 l0_0 x).f2.length c5) (rd_T66 l0_0 x).f2 := Kd.R_lower (Kd.R_mono (Kd.R_bound HOS.out) (fun k hk => ⟨hk.2.1, by rw [if_neg (Nat.not_lt.2 hk.2.1)]⟩)) (Nat.le_trans hbg (Nat.le_of_lt HGL.out))
  have hSEG := (Kd.R_seg (okp := fun k => w3.heap.size ≤ k) hR' x h0 (by omega) (seg := [.slice A5 (rd_T66 l0_0 x).f2.length c5]) (j := 2) (x' := (rd_T66 l0_0 x, some x.toNat)) rfl HCC'.out (show 2 + 1 ≤ 4 by decide) (k66_mkM w4 w.heap.size _ (rd_T66 l0_0 x) hST) (fun k hk => ⟨trivial, fun e => by have := HGL.out; omega⟩)).1
  rw [mixL_set l0_0 x.toNat (rd_T66 l0_0 x) (rd_some_N l0_0 x h0 hlt)] at hSEG
  rw [hw]
  refine ⟨⟨x + 1, rfl, ⟨by omega, by omega⟩, ⟨bF_ (p := ⟨g, x.toNat * 4 + 2, none⟩) (u := .slice A5 (rd_T66 l0_0 x).f2.length c5) B0.out hng1⟩, ⟨bF_ (p := ⟨g, x.toNat * 4 + 2, none⟩) (u := .slice A5 (rd_T66 l0_0 x).f2.length c5) B1.out hng2⟩, ⟨Kd.R_drop (Kd.R_far (p := ⟨g, x.toNat * 4 + 2, none⟩) (Kd.R_types P0.out HGC.out (by decide)) (fun _ hk => hk.2) (.slice A5 (rd_T66 l0_0 x).f2.length c5))⟩, ⟨HB.out.setCell (p := ⟨g, x.toNat * 4 + 2, none⟩) hbg (.slice A5 (rd_T66 l0_0 x).f2.length c5)⟩, ⟨⟨fun k => if k < w3.heap.size then f k else x.toNat, ?_⟩⟩⟩, by simp only [intOf]; omega⟩
  rw [show (x + 1).toNat = x.toNat + 1 by omega]
  exact hSEG
theorem session_Copy.calls (A0_0 : Option Addr) (c0_0 : Nat) (l0_0 : List S66) (a0_1 : Int) (A0_2 : Option Addr) (c0_2 : Nat) (l0_2 : List S53) (r1 : List S66) (r2 : Int) (r3 : List S53) (w : World) (hr0_0 : Kd.C k66 w A0_0 l0_0.length l0_0) (hc0_0 : l0_0.length ≤ c0_0) (hr0_2 : Kd.C k53 w A0_2 l0_2.length l0_2) (hc0_2 : l0_2.length ≤ c0_2) (h : session_Copy.f l0_0 a0_1 l0_2 = some (r1, r2, r3)) :
 Calls Tryz.prog 24 #[.agg #[.slice A0_0 l0_0.length c0_0, .int .i64 a0_1, .slice A0_2 l0_2.length c0_2]] w fun e w' => ∃ v0_ v2_ : Value, e = .returned (.agg #[v0_, .int .i64 r2, v2_]) ∧ Kd.S k66 66 w' w.heap.size (fun _ => True) v0_ r1 ∧ Kd.R k53 53 w' w.heap.size (fun _ => True) v2_ r3 ∧ Below w.heap.size w w' := by
 unfold session_Copy.f at h
 by_cases c : sc_fit l0_0 l0_2 = true
 case neg =>
  rw [if_neg c] at h; cases h

 rw [if_pos c] at h
 obtain ⟨rfl, h2⟩ := Prod.mk.inj (Option.some.inj h)
 obtain ⟨rfl, rfl⟩ := Prod.mk.inj h2
 refine (session_Copy.callsS A0_0 c0_0 l0_0 a0_1 A0_2 c0_2 l0_2 w hr0_0 hc0_0 hr0_2 hc0_2 c).mono ?_
 rintro e w' ⟨v0, v2, h1, h2, h3, h4⟩
 exact ⟨v0, v2, h1, h2, h3, h4⟩
set_option maxHeartbeats 8000000
set_option maxRecDepth 100000
attribute [local go_sem] max2_int min2_int max_two min_two max_three min_three max_four min_four   -- for this text's walks alone
set_option linter.unusedVariables false
set_option linter.unusedSimpArgs false

def answer_Put.j0 : Nat → Int → Bool → List (S66) → Int → List (S53) → Option ((List (S66)) × Int × (List (S53)) × Int)
 | 0, _, _, _, _, _ => none
 | k + 1, x1, x16, x204000, x204001, x204002 => if x16 = true then (some (([] : List (S66)), 0, ([] : List (S53)), 2200)) else ((next_Step.f k x204000 x204001 x204002).bind fun bt207 => (if bt207.1 = 0 then ((session_Copy.f x204000 x204001 x204002).bind fun bt211 => (if bt211.2.2.length < 8796093022208 then (some (bt211.1, bt211.2.1, (bt211.2.2 ++ [(⟨bt207.2.1, x1⟩ : S53)]), 0)) else (none))) else (some (([] : List (S66)), 0, ([] : List (S53)), 2201))))
def answer_Put.f (k : Nat) (l0_0 : List (S66)) (a0_1 : Int) (l0_2 : List (S53)) (a1 : Int) : Option ((List (S66)) × Int × (List (S53)) × Int) := (session_May.f k l0_0 a0_1 l0_2).bind fun t205 => (if t205 = true then ((next_Mark.f a1).bind fun t206 => (answer_Put.j0 k a1 (!t206) l0_0 a0_1 l0_2)) else (answer_Put.j0 k a1 true l0_0 a0_1 l0_2))
theorem answer_Put.calls (k : Nat) (A0_0 : Option Addr) (c0_0 : Nat) (l0_0 : List (S66)) (a0_1 : Int) (A0_2 : Option Addr) (c0_2 : Nat) (l0_2 : List (S53)) (a1 : Int) (r1 : List (S66)) (r2 : Int) (r3 : List (S53)) (r4 : Int) (w : World) (hr0_0 : Kd.C k66 w A0_0 l0_0.length l0_0) (hc0_0 : l0_0.length ≤ c0_0) (hr0_2 : Kd.C k53 w A0_2 l0_2.length l0_2) (hc0_2 : l0_2.length ≤ c0_2) (h : answer_Put.f k l0_0 a0_1 l0_2 a1 = some (r1, r2, r3, r4)) (hG : GOK w) :
 Calls Tryz.prog 8 #[.agg #[.slice A0_0 l0_0.length c0_0, .int .i64 a0_1, .slice A0_2 l0_2.length c0_2], .int .i64 a1] w fun e w' => ∃ v0_ v2_ : Value, e = .returned (.tuple #[.agg #[v0_, .int .i64 r2, v2_], .int .i64 r4]) ∧ Kd.S k66 66 w' w.heap.size (fun _ => True) v0_ r1 ∧ Kd.R k53 53 w' w.heap.size (fun _ => True) v2_ r3 ∧ Below w.heap.size w w' := by
 have hu25 := Tryz.underlying25
 have hu49 := Tryz.underlying49
 have hu53 := Tryz.underlying53
 have HR0_0 := a_ hr0_0
 have HC0_0 := a_ hc0_0
 clear hr0_0 hc0_0
 have HR0_2 := a_ hr0_2
 have HC0_2 := a_ hc0_2
 clear hr0_2 hc0_2
 have HB := a_ (Below.refl w.heap.size w)
 have H := h; unfold answer_Put.f at H
 clear h
 have HC3 := a_ H
 clear H
 go_enter Tryz.func8, Tryz.ntmps8
 go_upto_region 1 with (first | ((with_reducible refine gate_dst (N := 2) rfl ?_); refine boxE_ 2 #[.slice A0_0 l0_0.length c0_0, .int .i64 a0_1, .slice A0_2 l0_2.length c0_2] 25 ?_; intro g2 hg w4 hbox hb; have B0 := a_ (hbox); have E1 := a_ ((gE_ hg : w.heap.size ≤ g2)); replace HB := a_ (below_step hB_ hb); clear hb hbox hg) | ((with_reducible refine gate_dst (N := 4) rfl ?_); refine boxE_ 4 #[.slice none 0 0, .int .i64 0, .slice none 0 0] 25 ?_; intro g0 hg w5 hbox hb; have B1 := a_ (hbox); have E2 := a_ ((gE_ hg : w.heap.size ≤ g0)); replace HB := a_ (below_step hC_ hb); have N1 := a_ ((bL_ B0.out hg : g2 ≠ g0)); have N2 := a_ ((bG_ B0.out hg : g0 ≠ g2)); replace B0 := a_ (bB_ B0.out hb); clear hb hbox hg))
 (try simp only [Act.put, List.setIfInBounds_toArray, List.set_cons_zero, List.set_cons_succ])
 go_cut [16] (fun v0 wc => ∃ (kq : Nat) (x0 : Bool), v0 = .bool x0 ∧ Aside0 (answer_Put.j0 kq a1 x0 l0_0 a0_1 l0_2 = some (r1, r2, r3, r4)) ∧ Aside0 (kq ≤ k) ∧ Aside0 (wc.heap[g2]? = some (.cells #[(.slice A0_0 l0_0.length c0_0), .int .i64 a0_1, (.slice A0_2 l0_2.length c0_2)] 25 (0, 0))) ∧ Aside0 (wc.heap[g0]? = some (.cells #[(.slice none 0 0), .int .i64 0, (.slice none 0 0)] 25 (0, 0))) ∧ Aside0 (Below w.heap.size w wc))
 case first =>
  have H := HC3.out
  clear HC3
  replace H := Option.bind_eq_some_iff.mp H
  obtain ⟨t7, A60, H⟩ := H
  try dsimp only at H
  have A6 := a_ A60
  clear A60
  by_cases c7 : t7 = true
  case neg =>
   replace c7 := Bool.eq_false_iff.mpr c7
   subst c7
   rw [if_neg (show ¬ (false = true) by decide)] at H
   have H' := a_ H
   clear H
   have m0 := N1.out
   have n0 := N2.out
   obtain ⟨z0, z1, z2, f0, f1, f2⟩ := bx3_ B0.out
   go_wp2_with (first | ((with_reducible refine gate_callee (f := 21) rfl ?_); refine goesL_ (some 10) rfl rfl Tryz.func21 (by kernel_rfl) rfl #[.agg #[.slice A0_0 l0_0.length c0_0, .int .i64 a0_1, .slice A0_2 l0_2.length c0_2]] rfl hL_ ?_; (with_reducible refine (session_May.calls k _ _ l0_0 a0_1 _ _ l0_2 false _ ?s1 ?s2 ?s3 ?s4 A6.out (by first | exact hG | exact GOK.below hG hC_)).mono ?_); (case s1 => exact cB_ HR0_0.out); (case s2 => exact HC0_0.out); (case s3 => exact cB_ HR0_2.out); (case s4 => exact HC0_2.out); rintro e w1 ⟨rfl, hb⟩; refine ⟨_, rfl, ?_⟩; replace B0 := a_ (bB_ B0.out hb); replace B1 := a_ (bB_ B1.out hb); replace HB := a_ (below_step hC_ hb); (try clear hb); (try clear hb2); (try clear hk); (try clear hi)))
   go_meet
   case rel => exact ⟨_, (true), hW_, H', ⟨by first | omega | exact Nat.le_refl _⟩, ⟨(hK_ B0.out)⟩, ⟨(hK_ B1.out)⟩, ⟨hC_⟩⟩
  subst c7
  rw [if_pos rfl] at H
  replace H := Option.bind_eq_some_iff.mp H
  obtain ⟨t5, A80, H⟩ := H
  try dsimp only at H
  have A8 := a_ A80
  clear A80
  have H' := a_ H
  clear H
  have m1 := N1.out
  have n1 := N2.out
  obtain ⟨z3, z4, z5, f3, f4, f5⟩ := bx3_ B0.out
  go_wp2_with (first | ((with_reducible refine gate_callee (f := 21) rfl ?_); refine goesL_ _ rfl rfl Tryz.func21 (by kernel_rfl) rfl #[.agg #[.slice A0_0 l0_0.length c0_0, .int .i64 a0_1, .slice A0_2 l0_2.length c0_2]] rfl hL_ ?_; (with_reducible refine (session_May.calls k _ _ l0_0 a0_1 _ _ l0_2 true _ ?s1 ?s2 ?s3 ?s4 A6.out (by first | exact hG | exact GOK.below hG hC_)).mono ?_); (case s1 => exact cB_ HR0_0.out); (case s2 => exact HC0_0.out); (case s3 => exact cB_ HR0_2.out); (case s4 => exact HC0_2.out); rintro e w2 ⟨rfl, hb⟩; refine ⟨_, rfl, ?_⟩; replace B0 := a_ (bB_ B0.out hb); replace B1 := a_ (bB_ B1.out hb); replace HB := a_ (below_step hC_ hb); (try clear hb); (try clear hb2); (try clear hk); (try clear hi)) | (go_at_call 22; (with_reducible refine (next_Mark.calls a1 t5 _ A8.out).mono ?_); rintro e w' ⟨rfl, ⟨nd, rfl⟩⟩))
  go_meet
  case rel => exact ⟨_, (!t5), hW_, H', ⟨by first | omega | exact Nat.le_refl _⟩, ⟨(hK_ B0.out)⟩, ⟨(hK_ B1.out)⟩, ⟨hC_⟩⟩
 case rest =>
  clear HC3
  try clear c1
  try clear c2
  try clear p2
  try clear c7
  try clear c8
  try clear c9
  try clear c12
  try clear z3
  try clear z4
  try clear z5
  try clear z0
  try clear z1
  try clear z2
  try clear f3
  try clear f4
  try clear f5
  try clear f0
  try clear f1
  try clear f2
  obtain ⟨kq, x0, rfl, HA, HJ2, B0, B1, HB⟩ := hcut
  cases kq with
  | zero => exact absurd HA.out (by simp [answer_Put.j0])
  | succ kj2 =>
   have H := HA.out
   clear HA
   simp only [answer_Put.j0] at H
   by_cases c15 : x0 = true
   case pos =>
    subst c15
    rw [if_pos rfl] at H
    simp only [Option.some.injEq, Prod.mk.injEq] at H
    obtain ⟨rfl, rfl, rfl, rfl⟩ := H
    have m2 := N2.out
    have n2 := N1.out
    obtain ⟨z6, z7, z8, f6, f7, f8⟩ := bx3_ B1.out
    go_wp2
    refine bodyPost_ret (results_ct rfl _ _ g0 25 #[.slice none 0 0, .int .i64 0, .slice none 0 0] (0, 0) _ rfl (bP_ (bP_ (bP_ (hK_ B1.out)))) Tryz.underlying25 rfl (by kernel_rfl)) rfl ?_
    exact ⟨_, _, hV_, by first | exact Kd.S_nil _ _ _ _ _ | exact Kd.N_nil _ _ _ _ _ | exact Kd.V_nil _ _ _ _ _ | exact Kd.Q_nil _ _ _ _ _ | exact Kd.R_nil _ _ _ _ _, by first | exact Kd.R_nil _ _ _ _ _ | exact Kd.N_nil _ _ _ _ _ | exact Kd.V_nil _ _ _ _ _ | exact Kd.Q_nil _ _ _ _ _ | exact Kd.S_nil _ _ _ _ _, hC_⟩
   replace c15 := Bool.eq_false_iff.mpr c15
   subst c15
   rw [if_neg (show ¬ (false = true) by decide)] at H
   replace H := Option.bind_eq_some_iff.mp H
   obtain ⟨⟨t0, t1, t6⟩, A180, H⟩ := H
   try dsimp only at H
   have A18 := a_ A180
   clear A180
   by_cases c19 : t0 = 0
   case neg =>
    rw [if_neg c19] at H
    have c19b0 : (t0 == 0) = false := beq_eq_false_iff_ne.mpr c19
    have c19b1 : (t0 != 0) = true := bne_iff_ne.mpr c19
    simp only [Option.some.injEq, Prod.mk.injEq] at H
    obtain ⟨rfl, rfl, rfl, rfl⟩ := H
    have m3 := N1.out
    have n3 := N2.out
    obtain ⟨z9, z10, z11, f9, f10, f11⟩ := bx3_ B0.out
    go_wp2_with (first | ((with_reducible refine gate_callee (f := 23) rfl ?_); refine goesL_ (some 20) rfl rfl Tryz.func23 (by kernel_rfl) rfl #[.agg #[.slice A0_0 l0_0.length c0_0, .int .i64 a0_1, .slice A0_2 l0_2.length c0_2]] rfl hL_ ?_; (with_reducible refine (next_Step.calls kj2 _ _ l0_0 a0_1 _ _ l0_2 t0 t1 t6 _ ?s1 ?s2 ?s3 ?s4 A18.out (by first | exact hG | exact GOK.below hG hC_)).mono ?_); (case s1 => exact cB_ HR0_0.out); (case s2 => exact HC0_0.out); (case s3 => exact cB_ HR0_2.out); (case s4 => exact HC0_2.out); rintro e w3 ⟨rfl, hb⟩; refine ⟨_, rfl, ?_⟩; replace B0 := a_ (bB_ B0.out hb); replace B1 := a_ (bB_ B1.out hb); replace HB := a_ (below_step hC_ hb); (try clear hb); (try clear hb2); (try clear hk); (try clear hi)) | ((with_reducible refine gate_dst (N := 6) rfl ?_); refine boxE_ 6 #[.int .i64 0, .int .i64 0] 49 ?_; intro g1 hg w6 hbox hb; have B2 := a_ (hbox); have E0 := a_ ((gE_ hg : w.heap.size ≤ g1)); replace HB := a_ (below_step hC_ hb); have N3 := a_ ((bL_ B0.out hg : g2 ≠ g1)); have N7 := a_ ((bG_ B0.out hg : g1 ≠ g2)); replace B0 := a_ (bB_ B0.out hb); have N0 := a_ ((bL_ B1.out hg : g0 ≠ g1)); have N8 := a_ ((bG_ B1.out hg : g1 ≠ g0)); replace B1 := a_ (bB_ B1.out hb); clear hb hbox hg; have m4 := N7.out; have n4 := N3.out; have m5 := N8.out; have n5 := N0.out; obtain ⟨z12, z13, f12, f13⟩ := bx2_ B2.out; obtain ⟨z14, z15, z16, f14, f15, f16⟩ := bx3_ B1.out))
    refine bodyPost_ret (results_ct rfl _ _ g0 25 #[.slice none 0 0, .int .i64 0, .slice none 0 0] (0, 0) _ rfl (bP_ (bP_ (bP_ (bF_ (bF_ (hK_ B1.out) N0.out) N0.out)))) Tryz.underlying25 rfl (by kernel_rfl)) rfl ?_
    exact ⟨_, _, hV_, by first | exact Kd.S_nil _ _ _ _ _ | exact Kd.N_nil _ _ _ _ _ | exact Kd.V_nil _ _ _ _ _ | exact Kd.Q_nil _ _ _ _ _ | exact Kd.R_nil _ _ _ _ _, by first | exact Kd.R_nil _ _ _ _ _ | exact Kd.N_nil _ _ _ _ _ | exact Kd.V_nil _ _ _ _ _ | exact Kd.Q_nil _ _ _ _ _ | exact Kd.S_nil _ _ _ _ _, hC_⟩

   rw [if_pos c19] at H
   have c19b0 : (t0 == 0) = true := beq_iff_eq.mpr c19
   have c19b1 : (t0 != 0) = false := bne_eq_false_iff_eq.mpr c19
   clear c19
   replace H := Option.bind_eq_some_iff.mp H
   obtain ⟨⟨t3, t4, t2⟩, A200, H⟩ := H
   try dsimp only at H
   have A20 := a_ A200
   clear A200
   replace H := ifI_ H; obtain ⟨c21, H⟩ := H
   have LMc21 := a_ c21
   clear c21
   obtain ⟨y0, i0⟩ : ∃ y_ : List (S53), y_ = (t2 ++ [(⟨t1, a1⟩ : S53)]) := ⟨_, rfl⟩
   replace H : (some (t3, t4, y0, 0)) = some (r1, r2, r3, r4) := by first | (rw [i0]; with_reducible exact H) | (have H2_ := (Option.bind_some _ _).symm.trans H; rw [i0]; with_reducible exact H2_) | (have H2_ := (Option.bind_some _ _).symm.trans H; with_reducible exact H2_) | with_reducible exact H | (rw [i0]; exact H) | exact H
   have Y0 := a_ i0
   clear i0
   simp only [Option.some.injEq, Prod.mk.injEq] at H
   obtain ⟨rfl, rfl, rfl, rfl⟩ := H
   have m6 := N1.out
   have n6 := N2.out
   obtain ⟨z17, z18, z19, f17, f18, f19⟩ := bx3_ B0.out
   go_wp2_with (first | ((with_reducible refine gate_callee (f := 23) rfl ?_); refine goesL_ (some 20) rfl rfl Tryz.func23 (by kernel_rfl) rfl #[.agg #[.slice A0_0 l0_0.length c0_0, .int .i64 a0_1, .slice A0_2 l0_2.length c0_2]] rfl hL_ ?_; (with_reducible refine (next_Step.calls kj2 _ _ l0_0 a0_1 _ _ l0_2 t0 t1 t6 _ ?s1 ?s2 ?s3 ?s4 A18.out (by first | exact hG | exact GOK.below hG hC_)).mono ?_); (case s1 => exact cB_ HR0_0.out); (case s2 => exact HC0_0.out); (case s3 => exact cB_ HR0_2.out); (case s4 => exact HC0_2.out); rintro e w7 ⟨rfl, hb⟩; refine ⟨_, rfl, ?_⟩; replace B0 := a_ (bB_ B0.out hb); replace B1 := a_ (bB_ B1.out hb); replace HB := a_ (below_step hC_ hb); (try clear hb); (try clear hb2); (try clear hk); (try clear hi)) | ((with_reducible refine gate_dst (N := 6) rfl ?_); refine boxE_ 6 #[.int .i64 0, .int .i64 0] 49 ?_; intro g1 hg w8 hbox hb; have B2 := a_ (hbox); have E0 := a_ ((gE_ hg : w.heap.size ≤ g1)); replace HB := a_ (below_step hC_ hb); have N3 := a_ ((bL_ B0.out hg : g2 ≠ g1)); have N7 := a_ ((bG_ B0.out hg : g1 ≠ g2)); replace B0 := a_ (bB_ B0.out hb); have N0 := a_ ((bL_ B1.out hg : g0 ≠ g1)); have N8 := a_ ((bG_ B1.out hg : g1 ≠ g0)); replace B1 := a_ (bB_ B1.out hb); clear hb hbox hg; have m7 := N7.out; have n7 := N3.out; have m8 := N8.out; have n8 := N0.out; obtain ⟨z20, z21, f20, f21⟩ := bx2_ B2.out; obtain ⟨z22, z23, z24, f22, f23, f24⟩ := bx3_ B0.out) | ((with_reducible refine gate_callee (f := 24) rfl ?_); refine goesL_ (some 28) rfl rfl Tryz.func24 (by kernel_rfl) rfl #[.agg #[.slice A0_0 l0_0.length c0_0, .int .i64 a0_1, .slice A0_2 l0_2.length c0_2]] rfl hL_ ?_; (with_reducible refine (session_Copy.calls _ _ l0_0 a0_1 _ _ l0_2 t3 t4 t2 _ ?s1 ?s2 ?s3 ?s4 A20.out).mono ?_); (case s1 => exact Kd.C_below HR0_0.out hC_); (case s2 => exact HC0_0.out); (case s3 => exact Kd.C_below HR0_2.out hC_); (case s4 => exact HC0_2.out); rintro e w9 ⟨v1, v2, rfl, ho0, ho1, hb⟩; refine ⟨_, rfl, ?_⟩; have P1 := a_ (Kd.S_lower ho0 (below_size hC_)); have P0 := a_ (Kd.R_lower ho1 (below_size hC_)); replace B0 := a_ (blk_below (g := g2) (o := .cells #[.slice A0_0 l0_0.length c0_0, .int .i64 a0_1, .slice A0_2 l0_2.length c0_2] 25 (0, 0)) (by (with_reducible repeat (first | refine blk_drewN ?_ _ | refine blk_drew ?_ | refine blk_alloc ?_ _)); exact (bF_ (bF_ (hK_ B0.out) N3.out) N3.out)) hb); replace B1 := a_ (blk_below (g := g0) (o := .cells #[.slice none 0 0, .int .i64 0, .slice none 0 0] 25 (0, 0)) (by (with_reducible repeat (first | refine blk_drewN ?_ _ | refine blk_drew ?_ | refine blk_alloc ?_ _)); exact (bF_ (bF_ (hK_ B1.out) N0.out) N0.out)) hb); replace B2 := a_ (blk_below (g := g1) (o := .cells #[.int .i64 t0, .int .i64 t1] 49 (0, 0)) (by (with_reducible repeat (first | refine blk_drewN ?_ _ | refine blk_drew ?_ | refine blk_alloc ?_ _)); exact (bP_ (bP_ (hK_ B2.out)))) hb); replace HB := a_ (below_step hC_ hb); (try clear hb); (try clear hb2); (try clear hk); (try clear hi); (try clear ho0); (try clear ho1)) | ((with_reducible refine gate_dst (N := 8) rfl ?_); refine boxE_ 8 #[.slice none 0 0, .int .i64 0, .slice none 0 0] 25 ?_; intro g3 hg w31 hbox hb; replace P1 := a_ (Kd.S_below (by (with_reducible repeat (first | apply Kd.S_alloc | apply Kd.S_drewN | apply Kd.S_drew)); exact P1.out) hb); replace P0 := a_ (Kd.R_below (hR_ P0.out) hb); have B3 := a_ (hbox); have E3 := a_ ((gE_ hg : w.heap.size ≤ g3)); replace HB := a_ (below_step hC_ hb); have N5 := a_ ((bL_ B0.out hg : g2 ≠ g3)); have N9 := a_ ((bG_ B0.out hg : g3 ≠ g2)); replace B0 := a_ (bB_ B0.out hb); have N4 := a_ ((bL_ B1.out hg : g0 ≠ g3)); have N10 := a_ ((bG_ B1.out hg : g3 ≠ g0)); replace B1 := a_ (bB_ B1.out hb); have N6 := a_ ((bL_ B2.out hg : g1 ≠ g3)); have N11 := a_ ((bG_ B2.out hg : g3 ≠ g1)); replace B2 := a_ (bB_ B2.out hb); clear hb hbox hg; obtain ⟨a2, o1, e0⟩ := Kd.S_slice P1.out; subst e0; have m9 := N9.out; have n9 := N5.out; have m10 := N10.out; have n10 := N4.out; have m11 := N11.out; have n11 := N6.out; obtain ⟨z25, z26, z27, f25, f26, f27⟩ := bx3_ B3.out; obtain ⟨a3, o2, e1⟩ := Kd.R_slice P0.out; subst e1; obtain ⟨z28, z29, f28, f29⟩ := bx2_ B2.out) | ((with_reducible refine gate_builtin (b := .append) (xs := #[.tmp 30, .tmp 35]) rfl ?_); at_builtin; refine Kd.R_append k53 (w0 := w) w.heap.size rfl (.tmp 30) (.tmp 35) 23 53 (.agg #[(.int .i64 0), (.int .i64 0)]) 16 rfl Tryz.underlying23 info53 rfl (by decide) (by omega) (.slice a3 t2.length o2) t2 (⟨t1, a1⟩ : S53) [.int .i64 t1, .int .i64 a1] (fun _ => True) (fun _ => False) rfl (by first | (go_simp; done) | (go_simp; rfl)) ?aP (fun _ hk => hk.elim) ?aF ?aO ?aB ?aS ?aL ?_; (case aP => exact k53_mkM _ _ _ (⟨t1, a1⟩ : S53)); (case aB => exact hC_); (case aF => exact (fun _ _ => trivial)); (case aO => exact (by (with_reducible repeat (first | apply Kd.R_alloc | apply Kd.R_drewN | apply Kd.R_drew)); exact Kd.R_mono (rF_ (rF_ (rF_ (Kd.R_types P0.out B3.out (by decide))))) (fun _ hk => trivial))); (case aS => exact (below_size hC_)); (case aL => have := LMc21.out; omega); intro v3 w39 ho hb hg hat; rw [← Y0.out] at ho; replace B0 := a_ (blk_grown (g := g2) (o := .cells #[.slice A0_0 l0_0.length c0_0, .int .i64 a0_1, .slice A0_2 l0_2.length c0_2] 25 (0, 0)) (bF_ (bF_ (bF_ (hK_ B0.out) N5.out) N5.out) N5.out) hg (Kd.R_ne P0.out B0.out (by decide))); replace B1 := a_ (blk_grown (g := g0) (o := .cells #[.slice none 0 0, .int .i64 0, .slice none 0 0] 25 (0, 0)) (bF_ (bF_ (bF_ (hK_ B1.out) N4.out) N4.out) N4.out) hg (Kd.R_ne P0.out B1.out (by decide))); replace B2 := a_ (blk_grown (g := g1) (o := .cells #[.int .i64 t0, .int .i64 t1] 49 (0, 0)) (bF_ (bF_ (bF_ (hK_ B2.out) N6.out) N6.out) N6.out) hg (Kd.R_ne P0.out B2.out (by decide))); replace P1 := a_ (Kd.S_over' (by (with_reducible repeat (first | apply Kd.S_alloc | apply Kd.S_drewN | apply Kd.S_drew)); exact (Kd.S_mono (sF_ (sF_ (sF_ (Kd.S_types P1.out B3.out (by decide))))) (fun _ h_ => h_.1))) (Kd.R_typed (by (with_reducible repeat (first | apply Kd.R_alloc | apply Kd.R_drewN | apply Kd.R_drew)); exact (Kd.R_mono (rF_ (rF_ (rF_ (Kd.R_types P0.out B3.out (by decide))))) (fun _ h_ => h_.1)))) (by decide) hg); replace B3 := a_ (blk_grown (g := g3) (o := .cells #[.slice a2 t3.length o1, .int .i64 t4, .slice a3 t2.length o2] 25 (0, 0)) (bP_ (bP_ (bP_ (hK_ B3.out)))) hg (Kd.R_ne P0.out B3.out (by decide))); replace HB := a_ (hb); have P2 := a_ (ho); clear P0; clear ho hb hg hat; obtain ⟨a0, o0, e2⟩ := Kd.R_slice P2.out; subst e2; obtain ⟨z30, z31, z32, f30, f31, f32⟩ := bx3_ B3.out; obtain ⟨z33, z34, z35, f33, f34, f35⟩ := bx3_ B1.out))
   refine bodyPost_ret (results_ct rfl _ _ g0 25 #[.slice a2 t3.length o1, .int .i64 t4, .slice a0 y0.length o0] (0, 0) _ rfl (bP_ (bP_ (bP_ (bF_ (hK_ B1.out) N4.out)))) Tryz.underlying25 rfl (by kernel_rfl)) rfl ?_
   exact ⟨_, _, hV_, by (with_reducible repeat (first | apply Kd.S_alloc | apply Kd.S_drewN | apply Kd.S_drew)); exact Kd.S_mono (sF_ (sF_ (sF_ (Kd.S_far (p := ⟨g3, 2, none⟩) (Kd.S_types (Kd.S_types P1.out B3.out (by decide)) B1.out (by decide)) (fun _ hk => hk.1.2) (.slice a0 y0.length o0))))) (fun _ hk => trivial), by (with_reducible repeat (first | apply Kd.R_alloc | apply Kd.R_drewN | apply Kd.R_drew)); exact Kd.R_mono (rF_ (rF_ (rF_ (Kd.R_far (p := ⟨g3, 2, none⟩) (Kd.R_types (Kd.R_types P2.out B3.out (by decide)) B1.out (by decide)) (fun _ hk => hk.1.2) (.slice a0 y0.length o0))))) (fun _ hk => trivial), hC_⟩
def sleuthref12_upTo.f (a0 : Int) (a1 : Int) (a2 : Int) : Option (Bool) := if a0 ≥ a1 then (some (decide (a0 ≤ a2))) else (some false)
theorem sleuthref12_upTo.calls (a0 : Int) (a1 : Int) (a2 : Int) (r : Bool) (w : World) (h : sleuthref12_upTo.f a0 a1 a2 = some r) :
 Calls Tryz.prog 32 #[.int .i64 a0, .int .i64 a1, .int .i64 a2] w fun e w' => e = .returned (.bool r) ∧ Drawn0 w w' := by
 have H := h; unfold sleuthref12_upTo.f at H
 clear h
 by_cases c4 : a0 ≥ a1
 case pos =>
  rw [if_pos c4] at H
  have c4b0 : decide (a1 ≤ a0) = true := decide_eq_true c4
  clear c4
  obtain rfl := Option.some.inj H
  go_enter Tryz.func32, Tryz.ntmps32
  go_wp2
  go_ret
  exact ⟨by first | rfl | (simp; done) | (simp [*]; done), by repeat (first | exact Drawn0.refl _ | apply Drawn0.step)⟩
 rw [if_neg c4] at H
 have c4b0 : decide (a1 ≤ a0) = false := decide_eq_false c4
 clear c4
 obtain rfl := Option.some.inj H
 go_enter Tryz.func32, Tryz.ntmps32
 go_wp2
 go_ret
 exact ⟨by first | rfl | (simp; done) | (simp [*]; done), by repeat (first | exact Drawn0.refl _ | apply Drawn0.step)⟩

def sleuthref1_bad.f  : Option (Int × Int × List ByteArray × Int) := some (0, 0, ([] : List ByteArray), (-1))
theorem sleuthref1_bad.calls  (r1 : Int) (r2 : Int) (r3 : List ByteArray) (r4 : Int) (w : World) (h : sleuthref1_bad.f  = some (r1, r2, r3, r4)) :
 Calls Tryz.prog 74 #[] w fun e w' => ∃ v2_ : Value, e = .returned (.agg #[.int .i64 r1, .int .i64 r2, v2_, .int .i64 r4]) ∧ Kd.R Kd.string 9 w' w.heap.size (fun _ => True) v2_ r3 ∧ Below w.heap.size w w' := by
 have hu103 := Tryz.underlying103
 have HB := a_ (Below.refl w.heap.size w)
 have H := h; unfold sleuthref1_bad.f at H
 clear h
 simp only [Option.some.injEq, Prod.mk.injEq] at H
 obtain ⟨rfl, rfl, rfl, rfl⟩ := H
 go_enter Tryz.func74, Tryz.ntmps74
 go_wp2_with (first | ((with_reducible refine gate_dst (N := 0) rfl ?_); refine boxE_ 0 #[.int .i64 0, .int .i64 0, .slice none 0 0, .int .i64 0] 103 ?_; intro g0 hg w1 hbox hb; have B0 := a_ (hbox); have E0 := a_ ((gE_ hg : w.heap.size ≤ g0)); replace HB := a_ (below_step hB_ hb); clear hb hbox hg; obtain ⟨z0, z1, z2, z3, f0, f1, f2, f3⟩ := bx4_ B0.out))
 refine bodyPost_ret (results_cell_row rfl _ _ g0 103 #[.int .i64 0, .int .i64 0, .slice none 0 0, .int .i64 (-1)] (0, 0) _ rfl (bP_ (bP_ (bP_ (bP_ (hK_ B0.out))))) Tryz.underlying103 rfl (by kernel_rfl)) rfl ?_
 exact ⟨_, hV_, by first | exact Kd.R_nil _ _ _ _ _ | exact Kd.N_nil _ _ _ _ _ | exact Kd.V_nil _ _ _ _ _ | exact Kd.Q_nil _ _ _ _ _ | exact Kd.S_nil _ _ _ _ _, hC_⟩

set_option maxHeartbeats 8000000
set_option maxRecDepth 100000
attribute [local go_sem] max2_int min2_int max_two min_two max_three min_three max_four min_four   -- for this text's walks alone
set_option linter.unusedVariables false
set_option linter.unusedSimpArgs false

def sleuthref1_digits.l0 : Nat → ByteArray → Int → Int → Option (Int × Int)
 | 0, _, _, _ => none
 | k + 1, x0, x4, x5 => if x5 < (x0.size : Int) then (if x5 < 6 then (if 0 ≤ x5 then (if (bt x0 x5) ≥ 48 then (if (bt x0 x5) ≤ 57 then (if x5 = 0 then (sleuthref1_digits.l0 k x0 (wrap64 ((wrap64 (10 * x4)) + (((bt x0 x5) - 48) % 256))) (wrap64 (x5 + 1))) else (if 0 < (x0.size : Int) then (if (bt x0 0) = 48 then (some (x4, x5)) else (sleuthref1_digits.l0 k x0 (wrap64 ((wrap64 (10 * x4)) + (((bt x0 x5) - 48) % 256))) (wrap64 (x5 + 1)))) else (none))) else (some (x4, x5))) else (some (x4, x5))) else (none)) else (some (x4, x5))) else (some (x4, x5))
def sleuthref1_digits.f (k : Nat) (a0 : ByteArray) : Option (Int × Int) := sleuthref1_digits.l0 k a0 0 0
theorem sleuthref1_digits.calls (k : Nat) (a0 : ByteArray) (r1 : Int) (r2 : Int) (w : World) (h : sleuthref1_digits.f k a0 = some (r1, r2)) :
 Calls Tryz.prog 75 #[.string a0] w fun e w' => e = .returned (.tuple #[.int .i64 r1, .int .i64 r2]) ∧ Drawn0 w w' := by
 have H : (sleuthref1_digits.l0 k a0 0 0) = some (r1, r2) := h
 clear h
 have H' := a_ H
 clear H
 go_enter Tryz.func75, Tryz.ntmps75
 go_wp2
 go_loopg [4, 5] k (fun kq v4 v5 w' => ∃ (x1 : Int) (x0 : Int), v4 = .int .i64 x1 ∧ v5 = .int .i64 x0 ∧ Aside0 (sleuthref1_digits.l0 kq a0 x1 x0 = some (r1, r2)) ∧ Aside0 (kq ≤ k) ∧ Drawn0 w w')
 case atStart => exact ⟨(0), (0), hW_, hW_, H', ⟨Nat.le_refl _⟩, by repeat (first | exact Drawn0.refl _ | apply Drawn0.step)⟩
 case round =>
  clear H'
  obtain ⟨x1, x0, rfl, rfl, HA, HK1, ⟨m1, rfl⟩⟩ := hrel
  cases gk with
  | zero => exact absurd HA.out (by simp [sleuthref1_digits.l0])
  | succ k1 =>
   have H := HA.out
   clear HA
   simp only [sleuthref1_digits.l0] at H
   by_cases c2 : x0 < (a0.size : Int)
   case neg =>
    rw [if_neg c2] at H
    have c2b0 : decide (x0 < (a0.size : Int)) = false := decide_eq_false c2
    clear c2
    simp only [Option.some.injEq, Prod.mk.injEq] at H
    obtain ⟨rfl, rfl⟩ := H
    go_wp2
    go_ret2
    exact ⟨by first | rfl | (simp; done) | (simp [*]; done), by repeat (first | exact Drawn0.refl _ | apply Drawn0.step)⟩

   rw [if_pos c2] at H
   have c2b0 : decide (x0 < (a0.size : Int)) = true := decide_eq_true c2
   clear c2
   by_cases c3 : x0 < 6
   case neg =>
    rw [if_neg c3] at H
    have c3b0 : decide (x0 < 6) = false := decide_eq_false c3
    clear c3
    simp only [Option.some.injEq, Prod.mk.injEq] at H
    obtain ⟨rfl, rfl⟩ := H
    go_wp2
    go_ret2
    exact ⟨by first | rfl | (simp; done) | (simp [*]; done), by repeat (first | exact Drawn0.refl _ | apply Drawn0.step)⟩
   rw [if_pos c3] at H
   have c3b0 : decide (x0 < 6) = true := decide_eq_true c3
   clear c3
   replace H := ifI_ H; obtain ⟨c4, H⟩ := H
   have c4b0 : decide (0 ≤ x0) = true := decide_eq_true c4
   clear c4
   by_cases c6 : (bt a0 x0) ≥ 48
   case neg =>
    rw [if_neg c6] at H
    have c6b0 : decide (48 ≤ (bt a0 x0)) = false := decide_eq_false c6
    clear c6
    simp only [Option.some.injEq, Prod.mk.injEq] at H
    obtain ⟨rfl, rfl⟩ := H
    have p5 : 0 ≤ (x0 : Int) := of_decide_eq_true hA_
    have q5 : x0 < (a0.size : Int) := of_decide_eq_true hA_
    have h0 := bt_at a0 x0
    replace p5 := eq_true p5
    replace q5 := eq_true q5
    go_wp2
    go_ret2
    exact ⟨by first | rfl | (simp; done) | (simp [*]; done), by repeat (first | exact Drawn0.refl _ | apply Drawn0.step)⟩
   rw [if_pos c6] at H
   have c6b0 : decide (48 ≤ (bt a0 x0)) = true := decide_eq_true c6
   clear c6
   by_cases c8 : (bt a0 x0) ≤ 57
   case neg =>
    rw [if_neg c8] at H
    have c8b0 : decide ((bt a0 x0) ≤ 57) = false := decide_eq_false c8
    clear c8
    simp only [Option.some.injEq, Prod.mk.injEq] at H
    obtain ⟨rfl, rfl⟩ := H
    have p5 : 0 ≤ (x0 : Int) := of_decide_eq_true hA_
    have q5 : x0 < (a0.size : Int) := of_decide_eq_true hA_
    have h0 := bt_at a0 x0
    replace p5 := eq_true p5
    replace q5 := eq_true q5
    have p7 : 0 ≤ (x0 : Int) := of_decide_eq_true hA_
    have q7 : x0 < (a0.size : Int) := of_decide_eq_true hA_
    have h1 := bt_at a0 x0
    replace p7 := eq_true p7
    replace q7 := eq_true q7
    go_wp2
    go_ret2
    exact ⟨by first | rfl | (simp; done) | (simp [*]; done), by repeat (first | exact Drawn0.refl _ | apply Drawn0.step)⟩
   rw [if_pos c8] at H
   have c8b0 : decide ((bt a0 x0) ≤ 57) = true := decide_eq_true c8
   clear c8
   by_cases c9 : x0 = 0
   case pos =>
    rw [if_pos c9] at H
    have c9b0 : (x0 == 0) = true := beq_iff_eq.mpr c9
    have c9b1 : (x0 != 0) = false := bne_eq_false_iff_eq.mpr c9
    clear c9
    have H' := a_ H
    clear H
    have p5 : 0 ≤ (x0 : Int) := of_decide_eq_true hA_
    have q5 : x0 < (a0.size : Int) := of_decide_eq_true hA_
    have h0 := bt_at a0 x0
    replace p5 := eq_true p5
    replace q5 := eq_true q5
    have p7 : 0 ≤ (x0 : Int) := of_decide_eq_true hA_
    have q7 : x0 < (a0.size : Int) := of_decide_eq_true hA_
    have h1 := bt_at a0 x0
    replace p7 := eq_true p7
    replace q7 := eq_true q7
    have p10 : 0 ≤ (x0 : Int) := of_decide_eq_true hA_
    have q10 : x0 < (a0.size : Int) := of_decide_eq_true hA_
    have h3 := bt_at a0 x0
    replace p10 := eq_true p10
    replace q10 := eq_true q10
    go_wp2
    go_roundg k1
    case measure => have := HK1.out; omega
    case rel => exact ⟨(wrap64 ((wrap64 (10 * x1)) + (((bt a0 x0) - 48) % 256))), (wrap64 (x0 + 1)), hW_, hW_, H', ⟨by have := HK1.out; omega⟩, by repeat (first | exact Drawn0.refl _ | apply Drawn0.step)⟩
   rw [if_neg c9] at H
   have c9b0 : (x0 == 0) = false := beq_eq_false_iff_ne.mpr c9
   have c9b1 : (x0 != 0) = true := bne_iff_ne.mpr c9
   replace H := ifI_ H; obtain ⟨c11, H⟩ := H
   have c11b0 : decide (0 < (a0.size : Int)) = true := decide_eq_true c11
   have c11b1 : decide (0 < a0.size) = true := decide_eq_true (by omega)
   clear c11
   by_cases c13 : (bt a0 0) = 48
   case pos =>
    rw [if_pos c13] at H
    have c13b0 : ((bt a0 0) == 48) = true := beq_iff_eq.mpr c13
    have c13b1 : ((bt a0 0) != 48) = false := bne_eq_false_iff_eq.mpr c13
    clear c13
    simp only [Option.some.injEq, Prod.mk.injEq] at H
    obtain ⟨rfl, rfl⟩ := H
    have p5 : 0 ≤ (x0 : Int) := of_decide_eq_true hA_
    have q5 : x0 < (a0.size : Int) := of_decide_eq_true hA_
    have h0 := bt_at a0 x0
    replace p5 := eq_true p5
    replace q5 := eq_true q5
    have p7 : 0 ≤ (x0 : Int) := of_decide_eq_true hA_
    have q7 : x0 < (a0.size : Int) := of_decide_eq_true hA_
    have h1 := bt_at a0 x0
    replace p7 := eq_true p7
    replace q7 := eq_true q7
    have p12 : 0 ≤ (0 : Int) := (by omega)
    have q12 : 0 < a0.size := (by have : (0 : Int) < (a0.size : Int) := of_decide_eq_true hA_; omega)
    have h2 : ∀ h : 0 < a0.size, ((a0[0]'h).toNat : Int) = bt a0 0 := bt_at a0 0
    clear p12
    have qi12 : (0 < (a0.size : Int)) = True := eq_true (of_decide_eq_true hA_)
    replace q12 := eq_true q12
    go_wp2
    go_ret2
    exact ⟨by first | rfl | (simp; done) | (simp [*]; done), by repeat (first | exact Drawn0.refl _ | apply Drawn0.step)⟩
   rw [if_neg c13] at H
   have c13b0 : ((bt a0 0) == 48) = false := beq_eq_false_iff_ne.mpr c13
   have c13b1 : ((bt a0 0) != 48) = true := bne_iff_ne.mpr c13
   have H' := a_ H
   clear H
   have p5 : 0 ≤ (x0 : Int) := of_decide_eq_true hA_
   have q5 : x0 < (a0.size : Int) := of_decide_eq_true hA_
   have h0 := bt_at a0 x0
   replace p5 := eq_true p5
   replace q5 := eq_true q5
   have p7 : 0 ≤ (x0 : Int) := of_decide_eq_true hA_
   have q7 : x0 < (a0.size : Int) := of_decide_eq_true hA_
   have h1 := bt_at a0 x0
   replace p7 := eq_true p7
   replace q7 := eq_true q7
   have p12 : 0 ≤ (0 : Int) := (by omega)
   have q12 : 0 < a0.size := (by have : (0 : Int) < (a0.size : Int) := of_decide_eq_true hA_; omega)
   have h2 : ∀ h : 0 < a0.size, ((a0[0]'h).toNat : Int) = bt a0 0 := bt_at a0 0
   clear p12
   have qi12 : (0 < (a0.size : Int)) = True := eq_true (of_decide_eq_true hA_)
   replace q12 := eq_true q12
   have p14 : 0 ≤ (x0 : Int) := of_decide_eq_true hA_
   have q14 : x0 < (a0.size : Int) := of_decide_eq_true hA_
   have h4 := bt_at a0 x0
   replace p14 := eq_true p14
   replace q14 := eq_true q14
   go_wp2
   go_roundg k1
   case measure => have := HK1.out; omega
   case rel => exact ⟨(wrap64 ((wrap64 (10 * x1)) + (((bt a0 x0) - 48) % 256))), (wrap64 (x0 + 1)), hW_, hW_, H', ⟨by have := HK1.out; omega⟩, by repeat (first | exact Drawn0.refl _ | apply Drawn0.step)⟩
-- (function 76, sleuthref1_parts: with its fellows)

def sleuthref1_upTo.f (a0 : Int) (a1 : Int) (a2 : Int) : Option (Bool) := if a0 ≥ a1 then (some (decide (a0 ≤ a2))) else (some false)
theorem sleuthref1_upTo.calls (a0 : Int) (a1 : Int) (a2 : Int) (r : Bool) (w : World) (h : sleuthref1_upTo.f a0 a1 a2 = some r) :
 Calls Tryz.prog 79 #[.int .i64 a0, .int .i64 a1, .int .i64 a2] w fun e w' => e = .returned (.bool r) ∧ Drawn0 w w' := by
 have H := h; unfold sleuthref1_upTo.f at H
 clear h
 by_cases c4 : a0 ≥ a1
 case pos =>
  rw [if_pos c4] at H
  have c4b0 : decide (a1 ≤ a0) = true := decide_eq_true c4
  clear c4
  obtain rfl := Option.some.inj H
  go_enter Tryz.func79, Tryz.ntmps79
  go_wp2
  go_ret
  exact ⟨by first | rfl | (simp; done) | (simp [*]; done), by repeat (first | exact Drawn0.refl _ | apply Drawn0.step)⟩
 rw [if_neg c4] at H
 have c4b0 : decide (a1 ≤ a0) = false := decide_eq_false c4
 clear c4
 obtain rfl := Option.some.inj H
 go_enter Tryz.func79, Tryz.ntmps79
 go_wp2
 go_ret
 exact ⟨by first | rfl | (simp; done) | (simp [*]; done), by repeat (first | exact Drawn0.refl _ | apply Drawn0.step)⟩

def sleuthref1_NumMay.f (a0 : Int) : Option (Bool) := (sleuthref1_upTo.f a0 (-32768) 32767).bind fun t253 => (some t253)
theorem sleuthref1_NumMay.calls (a0 : Int) (r : Bool) (w : World) (h : sleuthref1_NumMay.f a0 = some r) :
 Calls Tryz.prog 77 #[.int .i64 a0] w fun e w' => e = .returned (.bool r) ∧ Drawn0 w w' := by
 have H := h; unfold sleuthref1_NumMay.f at H
 clear h
 replace H := Option.bind_eq_some_iff.mp H
 obtain ⟨t0, A20, H⟩ := H
 try dsimp only at H
 have A2 := a_ A20
 clear A20
 obtain rfl := Option.some.inj H
 go_enter Tryz.func77, Tryz.ntmps77
 go_wp2_with (first | ((with_reducible refine gate_callee (f := 79) rfl ?_); refine goesL_ _ rfl rfl Tryz.func79 (by kernel_rfl) rfl #[.int .i64 a0, .int .i64 (-32768), .int .i64 32767] rfl hL_ ?_; (with_reducible refine (sleuthref1_upTo.calls a0 (-32768) 32767 t0 _ A2.out).mono ?_); rintro e w' ⟨rfl, ⟨nd, rfl⟩⟩; refine ⟨_, rfl, ?_⟩))
 go_ret
 exact ⟨by first | rfl | (simp; done) | (simp [*]; done), by repeat (first | exact Drawn0.refl _ | apply Drawn0.step)⟩

end Go.Proofs.YtbnljapgnfmmoaaGreatDoor.G
end
