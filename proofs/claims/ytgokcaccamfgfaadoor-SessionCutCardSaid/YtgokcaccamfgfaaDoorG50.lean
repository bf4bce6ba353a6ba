-- Laid by the session's own driver gp.py over the kit's printer. Not trusted: Lean checks it.
import Derived.Test.YtgokcaccamfgfaaDoorG0
import Derived.Test.YtgokcaccamfgfaaDoorU13
import Derived.Test.YtgokcaccamfgfaaDoorU14
namespace Go.Proofs.YtgokcaccamfgfaaDoor.G
open Go.RowKit Go.Proofs.YtgokcaccamfgfaaDoorW.PrintWords Go.Proofs.YtgokcaccamfgfaaDoorW.PrintLast Go.Proofs.YtgokcaccamfgfaaDoorW.PrintMore
attribute [local go_sem] max2_int min2_int max_two min_two max_three min_three max_four min_four   -- for this text's walks alone
set_option linter.unusedVariables false
set_option linter.unusedSimpArgs false

/-! ### sleuthlaw21_SessionCut: function 6 -/
def sleuthlaw21_SessionCut.f (k : Nat) (l0_0 : List (S33)) (a0_1 : Int) (l0_2 : List (S26)) (a1 : Int) : Option (Bool) := (sleuthlaw21_awake.f k).bind fun t557 => (if t557 = true then (if (IntKind.u64.wrap (wrap64 ((l0_2.length : Int) + 1))) = 0 then (none) else (if 0 ≤ (wrap64 (Int.tmod (IntKind.u64.wrap (a1)) (IntKind.u64.wrap (wrap64 ((l0_2.length : Int) + 1))))) then (if (wrap64 (Int.tmod (IntKind.u64.wrap (a1)) (IntKind.u64.wrap (wrap64 ((l0_2.length : Int) + 1))))) ≤ (l0_2.length : Int) then ((session_May.f k l0_0 a0_1 l0_2).bind fun t563 => (if t563 = true then ((session_May.f k l0_0 a0_1 (l0_2.take ((wrap64 (Int.tmod (IntKind.u64.wrap (a1)) (IntKind.u64.wrap (wrap64 ((l0_2.length : Int) + 1))))) : Int).toNat)).bind fun t564 => (some t564)) else (some true))) else (none)) else (none))) else (none))
theorem sleuthlaw21_SessionCut.mono : ∀ a0 a1 a2 a3 k, LeO (sleuthlaw21_SessionCut.f k a0 a1 a2 a3) (sleuthlaw21_SessionCut.f (k + 1) a0 a1 a2 a3) := by
  intro a0 a1 a2 a3 k
  unfold sleuthlaw21_SessionCut.f
  repeat' first
      | (with_reducible exact session_May.mono _ _ _ _)
      | (with_reducible exact sleuthlaw21_awake.mono _)
      | (with_reducible exact LeO.refl _)
      | (with_reducible exact LeO.none _)
      | (with_reducible refine LeO.ite ?_ ?_)
      | (with_reducible refine LeO.bind ?_ (fun _ => ?_))
      | exact session_May.mono _ _ _ _
      | exact sleuthlaw21_awake.mono _
      | exact LeO.none _
      | refine LeO.ite ?_ ?_
      | refine LeO.bind ?_ (fun _ => ?_)
def sleuthlaw21_SessionCut.T4 : Bool × List (List Nat × List Nat) := (true, [([], []), ([0], [0]), ([], []), ([2], [2]), ([], []), ([4], [4]), ([5], [5]), ([6], [6]), ([7], [7]), ([3, 8], [3, 8]), ([9], [9]), ([1, 10], [1, 10]), ([0, 1, 2, 3, 4, 5, 6, 7, 8, 9, 10, 11], []), ([12, 11, 0, 1, 2, 3, 4, 5, 6, 7, 8, 9, 10, 11], [11, 12])])
def sleuthlaw21_SessionCut.B4 : List Nat := [0, 1, 0, 4, 0, 16, 48, 112, 240, 508, 1020, 2047, 4095, 8191]
theorem sleuthlaw21_SessionCut.tab4 : rtab .any (opsOf Tryd.f6 4) = sleuthlaw21_SessionCut.T4 := by kernel_rfl
theorem sleuthlaw21_SessionCut.bits4 : waitsOk sleuthlaw21_SessionCut.T4.2 sleuthlaw21_SessionCut.B4 = true := by kernel_rfl
set_option maxHeartbeats 8000000 in
set_option maxRecDepth 100000 in
theorem sleuthlaw21_SessionCut.calls (k : Nat) (A0_0 : Option Addr) (c0_0 : Nat) (l0_0 : List (S33)) (a0_1 : Int) (A0_2 : Option Addr) (c0_2 : Nat) (l0_2 : List (S26)) (a1 : Int) (r : Bool) (w : World) (hr0_0 : Kd.C k33 w A0_0 l0_0.length l0_0) (hc0_0 : l0_0.length ≤ c0_0) (hr0_2 : Kd.C k26 w A0_2 l0_2.length l0_2) (hc0_2 : l0_2.length ≤ c0_2) (h : sleuthlaw21_SessionCut.f k l0_0 a0_1 l0_2 a1 = some r) (hG : GOK w) :
    Calls Tryd.prog 6 #[.agg #[.slice A0_0 l0_0.length c0_0, .int .i64 a0_1, .slice A0_2 l0_2.length c0_2], .int .i64 a1] w fun e w' => e = .returned (.bool r) ∧ Below w.heap.size w w' := by
  have hu29 := Tryd.underlying29
  have HR0_0 := Aside0.mk hr0_0
  have HC0_0 := Aside0.mk hc0_0
  clear hr0_0 hc0_0
  have HR0_2 := Aside0.mk hr0_2
  have HC0_2 := Aside0.mk hc0_2
  clear hr0_2 hc0_2
  have HB := Aside0.mk (Below.refl w.heap.size w)
  have H : ((sleuthlaw21_awake.f k).bind fun t557 => (if t557 = true then (if (IntKind.u64.wrap (wrap64 ((l0_2.length : Int) + 1))) = 0 then (none) else (if 0 ≤ (wrap64 (Int.tmod (IntKind.u64.wrap (a1)) (IntKind.u64.wrap (wrap64 ((l0_2.length : Int) + 1))))) then (if (wrap64 (Int.tmod (IntKind.u64.wrap (a1)) (IntKind.u64.wrap (wrap64 ((l0_2.length : Int) + 1))))) ≤ (l0_2.length : Int) then ((session_May.f k l0_0 a0_1 l0_2).bind fun t563 => (if t563 = true then ((session_May.f k l0_0 a0_1 (l0_2.take ((wrap64 (Int.tmod (IntKind.u64.wrap (a1)) (IntKind.u64.wrap (wrap64 ((l0_2.length : Int) + 1))))) : Int).toNat)).bind fun t564 => (some t564)) else (some true))) else (none)) else (none))) else (none))) = some r := h
  clear h
  replace H := Option.bind_eq_some_iff.mp H
  obtain ⟨t557, A30, H⟩ := H
  replace H : (if t557 = true then (if (IntKind.u64.wrap (wrap64 ((l0_2.length : Int) + 1))) = 0 then (none) else (if 0 ≤ (wrap64 (Int.tmod (IntKind.u64.wrap (a1)) (IntKind.u64.wrap (wrap64 ((l0_2.length : Int) + 1))))) then (if (wrap64 (Int.tmod (IntKind.u64.wrap (a1)) (IntKind.u64.wrap (wrap64 ((l0_2.length : Int) + 1))))) ≤ (l0_2.length : Int) then ((session_May.f k l0_0 a0_1 l0_2).bind fun t563 => (if t563 = true then ((session_May.f k l0_0 a0_1 (l0_2.take ((wrap64 (Int.tmod (IntKind.u64.wrap (a1)) (IntKind.u64.wrap (wrap64 ((l0_2.length : Int) + 1))))) : Int).toNat)).bind fun t564 => (some t564)) else (some true))) else (none)) else (none))) else (none)) = some r := H
  have A3 := Aside0.mk A30
  clear A30
  by_cases c4 : t557 = true
  case neg =>
    replace c4 := Bool.eq_false_iff.mpr c4
    subst c4
    have H1 : (none) = some r := by rw [if_neg (show ¬ (false = true) by decide)] at H; exact H
    clear H
    have H := H1
    clear H1
    cases H
  subst c4
  have H1 : (if (IntKind.u64.wrap (wrap64 ((l0_2.length : Int) + 1))) = 0 then (none) else (if 0 ≤ (wrap64 (Int.tmod (IntKind.u64.wrap (a1)) (IntKind.u64.wrap (wrap64 ((l0_2.length : Int) + 1))))) then (if (wrap64 (Int.tmod (IntKind.u64.wrap (a1)) (IntKind.u64.wrap (wrap64 ((l0_2.length : Int) + 1))))) ≤ (l0_2.length : Int) then ((session_May.f k l0_0 a0_1 l0_2).bind fun t563 => (if t563 = true then ((session_May.f k l0_0 a0_1 (l0_2.take ((wrap64 (Int.tmod (IntKind.u64.wrap (a1)) (IntKind.u64.wrap (wrap64 ((l0_2.length : Int) + 1))))) : Int).toNat)).bind fun t564 => (some t564)) else (some true))) else (none)) else (none))) = some r := by rw [if_pos rfl] at H; exact H
  clear H
  have H := H1
  clear H1
  by_cases c5 : (IntKind.u64.wrap (wrap64 ((l0_2.length : Int) + 1))) = 0
  case pos =>
    rw [if_pos c5] at H
    exact absurd H (by simp)
  rw [if_neg c5] at H
  have c5b0 : ((IntKind.u64.wrap (wrap64 ((l0_2.length : Int) + 1))) == 0) = false := beq_eq_false_iff_ne.mpr c5
  have c5b1 : ((IntKind.u64.wrap (wrap64 ((l0_2.length : Int) + 1))) != 0) = true := bne_iff_ne.mpr c5
  (try (have c5b0w := c5b0; (rw [show wrap64 ((l0_2.length : Int) + 1) = ((l0_2.length : Int) + 1) from by unfold wrap64; omega] at c5b0w)))
  (try (have c5b1w := c5b1; (rw [show wrap64 ((l0_2.length : Int) + 1) = ((l0_2.length : Int) + 1) from by unfold wrap64; omega] at c5b1w)))
  obtain ⟨ji6, hji6⟩ : ∃ j_ : Int, (wrap64 (Int.tmod (IntKind.u64.wrap (a1)) (IntKind.u64.wrap (wrap64 ((l0_2.length : Int) + 1))))) = j_ := ⟨_, rfl⟩
  replace H : (if 0 ≤ (ji6) then (if (ji6) ≤ (l0_2.length : Int) then ((session_May.f k l0_0 a0_1 l0_2).bind fun t563 => (if t563 = true then ((session_May.f k l0_0 a0_1 (l0_2.take ((ji6) : Int).toNat)).bind fun t564 => (some t564)) else (some true))) else (none)) else (none)) = some r := by first | (rw [hji6] at H; exact H) | (simp only [hji6] at H ⊢; exact H)
  (try rw [hji6] at A3)
  have hji6w : (IntKind.i64.wrap (Int.tmod (IntKind.u64.wrap (a1)) (IntKind.u64.wrap (wrap64 ((l0_2.length : Int) + 1))))) = ji6 := (i64_w _).trans hji6
  replace H := ifI_ H; obtain ⟨c7, H⟩ := H
  have c7b0 := eq_true c7
  have c7b1 : decide (0 ≤ (ji6)) = true := decide_eq_true c7
  clear c7
  replace H := ifI_ H; obtain ⟨c8, H⟩ := H
  have c8b0 := eq_true c8
  have c8b1 : decide ((ji6) ≤ (l0_2.length : Int)) = true := decide_eq_true c8
  clear c8
  obtain ⟨y559, hy559⟩ : ∃ y_ : List (S26), y_ = (l0_2.take ((ji6) : Int).toNat) := ⟨_, rfl⟩
  replace H : ((session_May.f k l0_0 a0_1 l0_2).bind fun t563 => (if t563 = true then ((session_May.f k l0_0 a0_1 y559).bind fun t564 => (some t564)) else (some true))) = some r := by first | (rw [hy559]; with_reducible exact H) | (have H2_ := (Option.bind_some _ _).symm.trans H; rw [hy559]; with_reducible exact H2_) | (have H2_ := (Option.bind_some _ _).symm.trans H; with_reducible exact H2_) | with_reducible exact H | (rw [hy559]; exact H) | exact H
  have Ny559 := Aside0.mk hy559
  clear hy559
  replace H := Option.bind_eq_some_iff.mp H
  obtain ⟨t563, A90, H⟩ := H
  replace H : (if t563 = true then ((session_May.f k l0_0 a0_1 y559).bind fun t564 => (some t564)) else (some true)) = some r := H
  have A9 := Aside0.mk A90
  clear A90
  by_cases c10 : t563 = true
  case neg =>
    replace c10 := Bool.eq_false_iff.mpr c10
    subst c10
    have H1 : (some true) = some r := by rw [if_neg (show ¬ (false = true) by decide)] at H; exact H
    clear H
    have H := H1
    clear H1
    obtain rfl := Option.some.inj H
    go_enter Tryd.func6, Tryd.ntmps6
    try go_wp2_with (first | ((with_reducible refine gate_dst (N := 2) rfl ?_); refine boxE_ 2 #[.slice A0_0 l0_0.length c0_0, .int .i64 a0_1, .slice A0_2 l0_2.length c0_2] 29 ?_; intro gb556 hg w26 hbox hb; have n0_ := Aside0.mk (below_step hB_ hb); have n1_ := Aside0.mk (hbox); have n2_ := Aside0.mk ((gE_ hg : w.heap.size ≤ gb556)); have n3_ := Aside0.mk ((gE_ hg : w.heap.size ≤ gb556)); clear HB; have HB := n0_; have BK556 := n1_; have GW556 := n2_; have GE556 := n3_; clear n0_ n1_ n2_ n3_; clear hb hbox hg) | ((with_reducible refine gate_callee (f := 14) rfl ?_); refine goesL_ (some 6) rfl rfl Tryd.func14 (by kernel_rfl) rfl #[] rfl hL_ ?_; (with_reducible refine (sleuthlaw21_awake.calls k  true _ A3.out (by first | exact hG | exact GOK.below hG hC_)).mono ?_); rintro e w27 ⟨rfl, hb⟩; refine ⟨_, rfl, ?_⟩; have n0_ := Aside0.mk (bB_ BK556.out hb); have n1_ := Aside0.mk (below_step hC_ hb); clear BK556 HB; have BK556 := n0_; have HB := n1_; clear n0_ n1_; (try clear hb); (try clear hb2); (try clear hk); (try clear hi); obtain ⟨hcz28_0, hcz28_1, hcz28_2, hfz28_0, hfz28_1, hfz28_2⟩ := bx3_ BK556.out) | ((with_reducible refine gate_dst (N := 5) rfl ?_); refine boxE_ 5 #[.slice none 0 0, .int .i64 0, .slice none 0 0] 29 ?_; intro gb558 hg w29 hbox hb; have n0_ := Aside0.mk (bB_ BK556.out hb); have n1_ := Aside0.mk (below_step hC_ hb); have n2_ := Aside0.mk (hbox); have n3_ := Aside0.mk ((gE_ hg : w.heap.size ≤ gb558)); have n4_ := Aside0.mk ((gE_ hg : w.heap.size ≤ gb558)); have n5_ := Aside0.mk ((bL_ BK556.out hg : gb556 ≠ gb558)); have n6_ := Aside0.mk ((bG_ BK556.out hg : gb558 ≠ gb556)); clear BK556 HB; have BK556 := n0_; have HB := n1_; have BK558 := n2_; have GW558 := n3_; have GE558 := n4_; have NB556_558 := n5_; have NB558_556 := n6_; clear n0_ n1_ n2_ n3_ n4_ n5_ n6_; clear hb hbox hg; have hnb30 := NB558_556.out; have hnc30 := NB556_558.out; obtain ⟨hcz31_0, hcz31_1, hcz31_2, hfz31_0, hfz31_1, hfz31_2⟩ := bx3_ BK558.out))
    have n0_ : Aside0 ((((w29.setCell ⟨gb558, 0, none⟩ (.slice A0_0 l0_0.length c0_0)).setCell ⟨gb558, 1, none⟩ (.int .i64 a0_1)).setCell ⟨gb558, 2, none⟩ (.slice A0_2 l0_2.length c0_2)).heap[gb556]? = some (.cells #[.slice A0_0 l0_0.length c0_0, .int .i64 a0_1, .slice A0_2 l0_2.length c0_2] 29 (0, 0))) := ⟨(bF_ (bF_ (bF_ (hK_ BK556.out) NB556_558.out) NB556_558.out) NB556_558.out)⟩
    have n1_ : Aside0 ((((w29.setCell ⟨gb558, 0, none⟩ (.slice A0_0 l0_0.length c0_0)).setCell ⟨gb558, 1, none⟩ (.int .i64 a0_1)).setCell ⟨gb558, 2, none⟩ (.slice A0_2 l0_2.length c0_2)).heap[gb558]? = some (.cells #[.slice A0_0 l0_0.length c0_0, .int .i64 a0_1, .slice A0_2 l0_2.length c0_2] 29 (0, 0))) := ⟨(bP_ (bP_ (bP_ (hK_ BK558.out))))⟩
    have n2_ : Aside0 (Below w.heap.size w (((w29.setCell ⟨gb558, 0, none⟩ (.slice A0_0 l0_0.length c0_0)).setCell ⟨gb558, 1, none⟩ (.int .i64 a0_1)).setCell ⟨gb558, 2, none⟩ (.slice A0_2 l0_2.length c0_2))) := ⟨hC_⟩
    (try clear BK556)
    (try clear BK558)
    (try clear HB)
    generalize (((w29.setCell ⟨gb558, 0, none⟩ (.slice A0_0 l0_0.length c0_0)).setCell ⟨gb558, 1, none⟩ (.int .i64 a0_1)).setCell ⟨gb558, 2, none⟩ (.slice A0_2 l0_2.length c0_2)) = w32 at n0_ n1_ n2_ ⊢
    have BK556 := n0_
    have BK558 := n1_
    have HB := n2_
    clear n0_ n1_ n2_
    have n0_ := Aside0.mk (blk_drew BK556.out)
    have n1_ := Aside0.mk (blk_drew BK558.out)
    have n2_ := Aside0.mk (below_drew1 HB.out)
    clear BK556
    clear BK558
    clear HB
    have BK556 := n0_
    have BK558 := n1_
    have HB := n2_
    clear n0_ n1_ n2_
    have q34 : ((ji6) : Int) ≤ ((l0_2.length : Int) : Int) := of_decide_eq_true hA_
    obtain ⟨i034, hi034, _, hsz34, _⟩ := info_parts info26
    have hroom34 : l0_2.length ≤ c0_2 := HC0_2.out
    have hC34 : Kd.C k26 _ A0_2 l0_2.length l0_2 := HR0_2.out
    have hcut34 := cut_to (P := Tryd.prog) 27 26 .i64 Tryd.underlying27 hi034 A0_2 l0_2.length c0_2 (ji6) (of_decide_eq_true hA_) q34 hroom34
    have hr34 := Kd.C_take (m := ((ji6) : Int).toNat) hC34 (by omega)
    have hy34 : y559.length = ((ji6) : Int).toNat := (by rw [Ny559.out, List.length_take]; omega)
    rw [← Ny559.out] at hr34
    rw [← hy34] at hcut34
    have HR562 := Aside0.mk hr34
    have HC562 := Aside0.mk (show y559.length ≤ c0_2 from by omega)
    clear hr34 hC34 hroom34 hi034 hsz34
    have KY34 := Aside0.mk hy34
    clear hy34
    replace q34 := eq_true q34
    refine start_ (n := 14) (S := fun w' => w'.cell? ⟨gb556, 0, none⟩ = some (.slice A0_0 l0_0.length c0_0) ∧ w'.cell? ⟨gb556, 1, none⟩ = some (.int .i64 a0_1) ∧ w'.cell? ⟨gb556, 2, none⟩ = some (.slice A0_2 l0_2.length c0_2)) (ds := []) #[false, false, false, false, false, false, false, false, false, false, false, false, false, false] (by kernel_rfl) rfl rfl ⟨(blk_cell BK556.out 0).trans rfl, (blk_cell BK556.out 1).trans rfl, (blk_cell BK556.out 2).trans rfl⟩ (fun hHeld => ?_); refine with_tabW sleuthlaw21_SessionCut.tab4 sleuthlaw21_SessionCut.bits4 (fun HT_ HW_ => ?_)
    generalize w32.drew = w33 at BK556 BK558 HB HR562 hHeld ⊢
    refine pA_ 0 9 #[true, false, false, false, false, false, false, false, false, false, false, false, false, false] HT_.out ?_
    refine pA_ 2 11 #[true, false, true, false, false, false, false, false, false, false, false, false, false, false] HT_.out ?_
    refine pA_ 3 12 #[true, false, true, true, false, false, false, false, false, false, false, false, false, false] HT_.out ?_
    refine pA_ 4 13 #[true, false, true, true, true, false, false, false, false, false, false, false, false, false] HT_.out ?_
    refine tA_ 1 10 #[true, true, true, true, true, false, false, false, false, false, false, false, false, false] HT_.out HW_.out hHeld ?_
    refine tA_ 5 14 #[true, true, true, true, true, true, false, false, false, false, false, false, false, false] HT_.out HW_.out hHeld ?_
    refine pA_ 6 15 #[true, true, true, true, true, true, true, false, false, false, false, false, false, false] HT_.out ?_
    refine pA_ 7 16 #[true, true, true, true, true, true, true, true, false, false, false, false, false, false] HT_.out ?_
    refine pA_ 8 17 #[true, true, true, true, true, true, true, true, true, false, false, false, false, false] HT_.out ?_
    refine pA_ 9 18 #[true, true, true, true, true, true, true, true, true, true, false, false, false, false] HT_.out ?_
    refine pA_ 10 19 #[true, true, true, true, true, true, true, true, true, true, true, false, false, false] HT_.out ?_
    refine pA_ 11 20 #[true, true, true, true, true, true, true, true, true, true, true, true, false, false] HT_.out ?_
    refine pA_ 12 21 #[true, true, true, true, true, true, true, true, true, true, true, true, true, false] HT_.out ?_
    refine one_ (i := 13) (N := none) #[true, true, true, true, true, true, true, true, true, true, true, true, true, true] rfl rfl (one_of HT_.out (by kernel_rfl)) (by decide) (fun K hK => ?_)
    have hs35 := bc2_ BK558.out
    have hfs35 := blk_frozen BK558.out 2
    have hns35_0 := NB556_558.out
    have hms35_0 := NB558_556.out
    refine skip_ (w1 := ?_) (by rfl) rfl ?_ ?_
    rotate_left
    · go_simp
      rfl
    refine hK.out _ _ ⟨((cell_far (p := ⟨gb558, _, none⟩) NB556_558.out _).trans (hHeld.1)), ((cell_far (p := ⟨gb558, _, none⟩) NB556_558.out _).trans (hHeld.2.1)), ((cell_far (p := ⟨gb558, _, none⟩) NB556_558.out _).trans (hHeld.2.2))⟩ (fun hHeld => ?_)
    clear hK K
    refine done_ (done_of HT_.out (by kernel_rfl)) ?_
    obtain ⟨hcz36_0, hcz36_1, hcz36_2, hfz36_0, hfz36_1, hfz36_2⟩ := bx3_ BK556.out
    try go_wp2_with (first | ((with_reducible refine gate_callee (f := 16) rfl ?_); refine goesL_ (some 23) rfl rfl Tryd.func16 (by kernel_rfl) rfl #[.agg #[.slice A0_0 l0_0.length c0_0, .int .i64 a0_1, .slice A0_2 l0_2.length c0_2]] rfl hL_ ?_; (with_reducible refine (session_May.calls k _ _ l0_0 a0_1 _ _ l0_2 false _ ?side1 ?side2 ?side3 ?side4 A9.out (by first | exact hG | exact GOK.below hG hC_)).mono ?_); (case side1 => exact Kd.C_below HR0_0.out hC_); (case side2 => exact HC0_0.out); (case side3 => exact Kd.C_below HR0_2.out hC_); (case side4 => exact HC0_2.out); rintro e w37 ⟨rfl, hb⟩; refine ⟨_, rfl, ?_⟩; have n0_ := Aside0.mk (blk_below (g := gb556) (o := .cells #[.slice A0_0 l0_0.length c0_0, .int .i64 a0_1, .slice A0_2 l0_2.length c0_2] 29 (0, 0)) (bF_ (hK_ BK556.out) NB556_558.out) hb); have n1_ := Aside0.mk (blk_below (g := gb558) (o := .cells #[.slice A0_0 l0_0.length c0_0, .int .i64 a0_1, .slice A0_2 y559.length c0_2] 29 (0, 0)) (bP_ (hK_ BK558.out)) hb); have n2_ := Aside0.mk (below_step hC_ hb); clear BK556 BK558 HB; have BK556 := n0_; have BK558 := n1_; have HB := n2_; clear n0_ n1_ n2_; (try clear hb); (try clear hb2); (try clear hk); (try clear hi)))
    go_ret
    exact ⟨by first | rfl | (simp [errW_none, errW_some] <;> rfl) | (simp only [← hji6]; first | rfl | (simp [errW_none, errW_some] <;> rfl)) | (simp [*, errW_none, errW_some] <;> rfl), hC_⟩
  subst c10
  have H1 : ((session_May.f k l0_0 a0_1 y559).bind fun t564 => (some t564)) = some r := by rw [if_pos rfl] at H; exact H
  clear H
  have H := H1
  clear H1
  replace H := Option.bind_eq_some_iff.mp H
  obtain ⟨t564, A110, H⟩ := H
  replace H : (some t564) = some r := H
  have A11 := Aside0.mk A110
  clear A110
  obtain rfl := Option.some.inj H
  go_enter Tryd.func6, Tryd.ntmps6
  try go_wp2_with (first | ((with_reducible refine gate_dst (N := 2) rfl ?_); refine boxE_ 2 #[.slice A0_0 l0_0.length c0_0, .int .i64 a0_1, .slice A0_2 l0_2.length c0_2] 29 ?_; intro gb556 hg w12 hbox hb; have n0_ := Aside0.mk (below_step hB_ hb); have n1_ := Aside0.mk (hbox); have n2_ := Aside0.mk ((gE_ hg : w.heap.size ≤ gb556)); have n3_ := Aside0.mk ((gE_ hg : w.heap.size ≤ gb556)); clear HB; have HB := n0_; have BK556 := n1_; have GW556 := n2_; have GE556 := n3_; clear n0_ n1_ n2_ n3_; clear hb hbox hg) | ((with_reducible refine gate_callee (f := 14) rfl ?_); refine goesL_ (some 6) rfl rfl Tryd.func14 (by kernel_rfl) rfl #[] rfl hL_ ?_; (with_reducible refine (sleuthlaw21_awake.calls k  true _ A3.out (by first | exact hG | exact GOK.below hG hC_)).mono ?_); rintro e w13 ⟨rfl, hb⟩; refine ⟨_, rfl, ?_⟩; have n0_ := Aside0.mk (bB_ BK556.out hb); have n1_ := Aside0.mk (below_step hC_ hb); clear BK556 HB; have BK556 := n0_; have HB := n1_; clear n0_ n1_; (try clear hb); (try clear hb2); (try clear hk); (try clear hi); obtain ⟨hcz14_0, hcz14_1, hcz14_2, hfz14_0, hfz14_1, hfz14_2⟩ := bx3_ BK556.out) | ((with_reducible refine gate_dst (N := 5) rfl ?_); refine boxE_ 5 #[.slice none 0 0, .int .i64 0, .slice none 0 0] 29 ?_; intro gb558 hg w15 hbox hb; have n0_ := Aside0.mk (bB_ BK556.out hb); have n1_ := Aside0.mk (below_step hC_ hb); have n2_ := Aside0.mk (hbox); have n3_ := Aside0.mk ((gE_ hg : w.heap.size ≤ gb558)); have n4_ := Aside0.mk ((gE_ hg : w.heap.size ≤ gb558)); have n5_ := Aside0.mk ((bL_ BK556.out hg : gb556 ≠ gb558)); have n6_ := Aside0.mk ((bG_ BK556.out hg : gb558 ≠ gb556)); clear BK556 HB; have BK556 := n0_; have HB := n1_; have BK558 := n2_; have GW558 := n3_; have GE558 := n4_; have NB556_558 := n5_; have NB558_556 := n6_; clear n0_ n1_ n2_ n3_ n4_ n5_ n6_; clear hb hbox hg; have hnb16 := NB558_556.out; have hnc16 := NB556_558.out; obtain ⟨hcz17_0, hcz17_1, hcz17_2, hfz17_0, hfz17_1, hfz17_2⟩ := bx3_ BK558.out))
  have n0_ : Aside0 ((((w15.setCell ⟨gb558, 0, none⟩ (.slice A0_0 l0_0.length c0_0)).setCell ⟨gb558, 1, none⟩ (.int .i64 a0_1)).setCell ⟨gb558, 2, none⟩ (.slice A0_2 l0_2.length c0_2)).heap[gb556]? = some (.cells #[.slice A0_0 l0_0.length c0_0, .int .i64 a0_1, .slice A0_2 l0_2.length c0_2] 29 (0, 0))) := ⟨(bF_ (bF_ (bF_ (hK_ BK556.out) NB556_558.out) NB556_558.out) NB556_558.out)⟩
  have n1_ : Aside0 ((((w15.setCell ⟨gb558, 0, none⟩ (.slice A0_0 l0_0.length c0_0)).setCell ⟨gb558, 1, none⟩ (.int .i64 a0_1)).setCell ⟨gb558, 2, none⟩ (.slice A0_2 l0_2.length c0_2)).heap[gb558]? = some (.cells #[.slice A0_0 l0_0.length c0_0, .int .i64 a0_1, .slice A0_2 l0_2.length c0_2] 29 (0, 0))) := ⟨(bP_ (bP_ (bP_ (hK_ BK558.out))))⟩
  have n2_ : Aside0 (Below w.heap.size w (((w15.setCell ⟨gb558, 0, none⟩ (.slice A0_0 l0_0.length c0_0)).setCell ⟨gb558, 1, none⟩ (.int .i64 a0_1)).setCell ⟨gb558, 2, none⟩ (.slice A0_2 l0_2.length c0_2))) := ⟨hC_⟩
  (try clear BK556)
  (try clear BK558)
  (try clear HB)
  generalize (((w15.setCell ⟨gb558, 0, none⟩ (.slice A0_0 l0_0.length c0_0)).setCell ⟨gb558, 1, none⟩ (.int .i64 a0_1)).setCell ⟨gb558, 2, none⟩ (.slice A0_2 l0_2.length c0_2)) = w18 at n0_ n1_ n2_ ⊢
  have BK556 := n0_
  have BK558 := n1_
  have HB := n2_
  clear n0_ n1_ n2_
  have n0_ := Aside0.mk (blk_drew BK556.out)
  have n1_ := Aside0.mk (blk_drew BK558.out)
  have n2_ := Aside0.mk (below_drew1 HB.out)
  clear BK556
  clear BK558
  clear HB
  have BK556 := n0_
  have BK558 := n1_
  have HB := n2_
  clear n0_ n1_ n2_
  have q20 : ((ji6) : Int) ≤ ((l0_2.length : Int) : Int) := of_decide_eq_true hA_
  obtain ⟨i020, hi020, _, hsz20, _⟩ := info_parts info26
  have hroom20 : l0_2.length ≤ c0_2 := HC0_2.out
  have hC20 : Kd.C k26 _ A0_2 l0_2.length l0_2 := HR0_2.out
  have hcut20 := cut_to (P := Tryd.prog) 27 26 .i64 Tryd.underlying27 hi020 A0_2 l0_2.length c0_2 (ji6) (of_decide_eq_true hA_) q20 hroom20
  have hr20 := Kd.C_take (m := ((ji6) : Int).toNat) hC20 (by omega)
  have hy20 : y559.length = ((ji6) : Int).toNat := (by rw [Ny559.out, List.length_take]; omega)
  rw [← Ny559.out] at hr20
  rw [← hy20] at hcut20
  have HR562 := Aside0.mk hr20
  have HC562 := Aside0.mk (show y559.length ≤ c0_2 from by omega)
  clear hr20 hC20 hroom20 hi020 hsz20
  have KY20 := Aside0.mk hy20
  clear hy20
  replace q20 := eq_true q20
  refine start_ (n := 14) (S := fun w' => w'.cell? ⟨gb556, 0, none⟩ = some (.slice A0_0 l0_0.length c0_0) ∧ w'.cell? ⟨gb556, 1, none⟩ = some (.int .i64 a0_1) ∧ w'.cell? ⟨gb556, 2, none⟩ = some (.slice A0_2 l0_2.length c0_2)) (ds := []) #[false, false, false, false, false, false, false, false, false, false, false, false, false, false] (by kernel_rfl) rfl rfl ⟨(blk_cell BK556.out 0).trans rfl, (blk_cell BK556.out 1).trans rfl, (blk_cell BK556.out 2).trans rfl⟩ (fun hHeld => ?_); refine with_tabW sleuthlaw21_SessionCut.tab4 sleuthlaw21_SessionCut.bits4 (fun HT_ HW_ => ?_)
  generalize w18.drew = w19 at BK556 BK558 HB HR562 hHeld ⊢
  refine pA_ 0 9 #[true, false, false, false, false, false, false, false, false, false, false, false, false, false] HT_.out ?_
  refine pA_ 2 11 #[true, false, true, false, false, false, false, false, false, false, false, false, false, false] HT_.out ?_
  refine pA_ 3 12 #[true, false, true, true, false, false, false, false, false, false, false, false, false, false] HT_.out ?_
  refine pA_ 4 13 #[true, false, true, true, true, false, false, false, false, false, false, false, false, false] HT_.out ?_
  refine tA_ 1 10 #[true, true, true, true, true, false, false, false, false, false, false, false, false, false] HT_.out HW_.out hHeld ?_
  refine tA_ 5 14 #[true, true, true, true, true, true, false, false, false, false, false, false, false, false] HT_.out HW_.out hHeld ?_
  refine pA_ 6 15 #[true, true, true, true, true, true, true, false, false, false, false, false, false, false] HT_.out ?_
  refine pA_ 7 16 #[true, true, true, true, true, true, true, true, false, false, false, false, false, false] HT_.out ?_
  refine pA_ 8 17 #[true, true, true, true, true, true, true, true, true, false, false, false, false, false] HT_.out ?_
  refine pA_ 9 18 #[true, true, true, true, true, true, true, true, true, true, false, false, false, false] HT_.out ?_
  refine pA_ 10 19 #[true, true, true, true, true, true, true, true, true, true, true, false, false, false] HT_.out ?_
  refine pA_ 11 20 #[true, true, true, true, true, true, true, true, true, true, true, true, false, false] HT_.out ?_
  refine pA_ 12 21 #[true, true, true, true, true, true, true, true, true, true, true, true, true, false] HT_.out ?_
  refine one_ (i := 13) (N := none) #[true, true, true, true, true, true, true, true, true, true, true, true, true, true] rfl rfl (one_of HT_.out (by kernel_rfl)) (by decide) (fun K hK => ?_)
  have hs21 := bc2_ BK558.out
  have hfs21 := blk_frozen BK558.out 2
  have hns21_0 := NB556_558.out
  have hms21_0 := NB558_556.out
  refine skip_ (w1 := ?_) (by rfl) rfl ?_ ?_
  rotate_left
  · go_simp
    rfl
  refine hK.out _ _ ⟨((cell_far (p := ⟨gb558, _, none⟩) NB556_558.out _).trans (hHeld.1)), ((cell_far (p := ⟨gb558, _, none⟩) NB556_558.out _).trans (hHeld.2.1)), ((cell_far (p := ⟨gb558, _, none⟩) NB556_558.out _).trans (hHeld.2.2))⟩ (fun hHeld => ?_)
  clear hK K
  refine done_ (done_of HT_.out (by kernel_rfl)) ?_
  obtain ⟨hcz22_0, hcz22_1, hcz22_2, hfz22_0, hfz22_1, hfz22_2⟩ := bx3_ BK556.out
  try go_wp2_with (first | ((with_reducible refine gate_callee (f := 16) rfl ?_); refine goesL_ (some 23) rfl rfl Tryd.func16 (by kernel_rfl) rfl #[.agg #[.slice A0_0 l0_0.length c0_0, .int .i64 a0_1, .slice A0_2 l0_2.length c0_2]] rfl hL_ ?_; (with_reducible refine (session_May.calls k _ _ l0_0 a0_1 _ _ l0_2 true _ ?side1 ?side2 ?side3 ?side4 A9.out (by first | exact hG | exact GOK.below hG hC_)).mono ?_); (case side1 => exact Kd.C_below HR0_0.out hC_); (case side2 => exact HC0_0.out); (case side3 => exact Kd.C_below HR0_2.out hC_); (case side4 => exact HC0_2.out); rintro e w23 ⟨rfl, hb⟩; refine ⟨_, rfl, ?_⟩; have n0_ := Aside0.mk (blk_below (g := gb556) (o := .cells #[.slice A0_0 l0_0.length c0_0, .int .i64 a0_1, .slice A0_2 l0_2.length c0_2] 29 (0, 0)) (bF_ (hK_ BK556.out) NB556_558.out) hb); have n1_ := Aside0.mk (blk_below (g := gb558) (o := .cells #[.slice A0_0 l0_0.length c0_0, .int .i64 a0_1, .slice A0_2 y559.length c0_2] 29 (0, 0)) (bP_ (hK_ BK558.out)) hb); have n2_ := Aside0.mk (below_step hC_ hb); clear BK556 BK558 HB; have BK556 := n0_; have BK558 := n1_; have HB := n2_; clear n0_ n1_ n2_; (try clear hb); (try clear hb2); (try clear hk); (try clear hi); obtain ⟨hcz24_0, hcz24_1, hcz24_2, hfz24_0, hfz24_1, hfz24_2⟩ := bx3_ BK558.out) | (go_at_call 16; (with_reducible refine (session_May.calls k _ _ l0_0 a0_1 _ _ y559 t564 _ ?side1 ?side2 ?side3 ?side4 A11.out (by first | exact hG | exact GOK.below hG hC_)).mono ?_); (case side1 => exact cB_ HR0_0.out); (case side2 => exact HC0_0.out); (case side3 => exact cB_ HR562.out); (case side4 => exact HC562.out); rintro e w25 ⟨rfl, hb⟩; have n0_ := Aside0.mk (bB_ BK556.out hb); have n1_ := Aside0.mk (bB_ BK558.out hb); have n2_ := Aside0.mk (below_step hC_ hb); clear BK556 BK558 HB; have BK556 := n0_; have BK558 := n1_; have HB := n2_; clear n0_ n1_ n2_; (try clear hb); (try clear hb2); (try clear hk); (try clear hi)))
  go_ret
  exact ⟨by first | rfl | (simp [errW_none, errW_some] <;> rfl) | (simp only [← hji6]; first | rfl | (simp [errW_none, errW_some] <;> rfl)) | (simp [*, errW_none, errW_some] <;> rfl), hC_⟩
end Go.Proofs.YtgokcaccamfgfaaDoor.G
