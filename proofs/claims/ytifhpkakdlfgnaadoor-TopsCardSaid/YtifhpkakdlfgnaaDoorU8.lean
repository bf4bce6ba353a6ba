/- Parts of this proof, one behind the other: G26, G27, G28, G29, G3, G30, G31, TNodes, TBits, G16, G17, G18, G19. -/
import Derived.Test.YtifhpkakdlfgnaaDoorU2
import Derived.Test.YtifhpkakdlfgnaaDoorG0
import Derived.Test.YtifhpkakdlfgnaaDoorU5
import Derived.Test.YtifhpkakdlfgnaaDoorU7
section
namespace Go.Proofs.YtifhpkakdlfgnaaDoor.G
open Go.RowKit Go.Proofs.YtifhpkakdlfgnaaDoorW.PrintWords Go.Proofs.YtifhpkakdlfgnaaDoorW.PrintLast Go.Proofs.YtifhpkakdlfgnaaDoorW.PrintMore
set_option maxHeartbeats 8000000
set_option maxRecDepth 100000
attribute [local go_sem] max2_int min2_int max_two min_two max_three min_three max_four min_four   -- for this text's walks alone
set_option linter.unusedVariables false
set_option linter.unusedSimpArgs false

def sleuthref12_MarksMay.l0 : Nat → List (S40) → List Int → Int → Option (Bool)
 | 0, _, _, _ => none
 | k + 1, x0, x1, x5 => if x5 < (x1.length : Int) then (if 0 ≤ x5 then ((sleuthref12_upTo.f (rd x1 x5) 0 3).bind fun t285 => (if t285 = true then (sleuthref12_MarksMay.l0 k x0 x1 (wrap64 (x5 + 1))) else (some false))) else (none)) else ((sleuthref12_TrailMay.f k x0).bind fun t286 => (if t286 = true then (some ((x1.length : Int) == (x0.length : Int))) else (some false)))
def sleuthref12_MarksMay.f (k : Nat) (l0 : List (S40)) (l1 : List Int) : Option (Bool) := sleuthref12_MarksMay.l0 k l0 l1 0
theorem sleuthref12_MarksMay.calls (k : Nat) (A0 : Option Addr) (c0 : Nat) (l0 : List (S40)) (A1 : Option Addr) (c1 : Nat) (l1 : List Int) (r : Bool) (w : World) (hr0 : Kd.C k40 w A0 l0.length l0) (hc0 : l0.length ≤ c0) (hr1 : Kd.C (Kd.int .i64) w A1 l1.length l1) (hc1 : l1.length ≤ c1) (h : sleuthref12_MarksMay.f k l0 l1 = some r) :
 Calls Tryd.prog 15 #[.slice A0 l0.length c0, .slice A1 l1.length c1] w fun e w' => e = .returned (.bool r) ∧ Below w.heap.size w w' := by
 have HR0 := a_ hr0
 have HC0 := a_ hc0
 clear hr0 hc0
 have HR1 := a_ hr1
 have HC1 := a_ hc1
 clear hr1 hc1
 have HB := a_ (Below.refl w.heap.size w)
 have H : (sleuthref12_MarksMay.l0 k l0 l1 0) = some r := h
 clear h
 have H' := a_ H
 clear H
 go_enter Tryd.func15, Tryd.ntmps15
 go_wp2
 go_loopg [5] k (fun kq v5 w' => ∃ (x0 : Int), v5 = .int .i64 x0 ∧ Aside0 (sleuthref12_MarksMay.l0 kq l0 l1 x0 = some r) ∧ Aside0 (kq ≤ k) ∧ Aside0 (Below w.heap.size w w'))
 case atStart => exact ⟨(0), hW_, H', ⟨Nat.le_refl _⟩, ⟨hC_⟩⟩
 case round =>
  clear H'
  try clear c1
  try clear p2
  obtain ⟨x0, rfl, HA, HK1, HB⟩ := hrel
  cases gk with
  | zero => exact absurd HA.out (by simp [sleuthref12_MarksMay.l0])
  | succ k1 =>
   have H := HA.out
   clear HA
   simp only [sleuthref12_MarksMay.l0] at H
   by_cases c3 : x0 < (l1.length : Int)
   case neg =>
    rw [if_neg c3] at H
    have c3b0 : decide (x0 < (l1.length : Int)) = false := decide_eq_false c3
    clear c3
    replace H := Option.bind_eq_some_iff.mp H
    obtain ⟨t0, A70, H⟩ := H
    try dsimp only at H
    have A7 := a_ A70
    clear A70
    by_cases c8 : t0 = true
    case pos =>
     subst c8
     rw [if_pos rfl] at H
     obtain rfl := Option.some.inj H
     go_wp2_with (first | ((with_reducible refine gate_callee (f := 26) rfl ?_); refine goesL_ (some 19) rfl rfl Tryd.func26 (by kernel_rfl) rfl #[.slice A0 l0.length c0] rfl hL_ ?_; (with_reducible refine (sleuthref12_TrailMay.calls k1 _ _ l0 true _ ?s1 ?s2 A7.out).mono ?_); (case s1 => exact cB_ HR0.out); (case s2 => exact HC0.out); rintro e w9 ⟨rfl, hb⟩; refine ⟨_, rfl, ?_⟩; replace HB := a_ (below_step hB_ hb); (try clear hb); (try clear hb2); (try clear hk); (try clear hi)))
     go_ret
     exact ⟨hV_, hC_⟩
    replace c8 := Bool.eq_false_iff.mpr c8
    subst c8
    rw [if_neg (show ¬ (false = true) by decide)] at H
    obtain rfl := Option.some.inj H
    go_wp2_with (first | ((with_reducible refine gate_callee (f := 26) rfl ?_); refine goesL_ (some 19) rfl rfl Tryd.func26 (by kernel_rfl) rfl #[.slice A0 l0.length c0] rfl hL_ ?_; (with_reducible refine (sleuthref12_TrailMay.calls k1 _ _ l0 false _ ?s1 ?s2 A7.out).mono ?_); (case s1 => exact cB_ HR0.out); (case s2 => exact HC0.out); rintro e w0 ⟨rfl, hb⟩; refine ⟨_, rfl, ?_⟩; replace HB := a_ (below_step hB_ hb); (try clear hb); (try clear hb2); (try clear hk); (try clear hi)))
    go_ret
    exact ⟨hV_, hC_⟩

   rw [if_pos c3] at H
   have c3b0 : decide (x0 < (l1.length : Int)) = true := decide_eq_true c3
   clear c3
   replace H := ifI_ H; obtain ⟨c4, H⟩ := H
   have c4b0 : decide (0 ≤ x0) = true := decide_eq_true c4
   clear c4
   replace H := Option.bind_eq_some_iff.mp H
   obtain ⟨t1, A50, H⟩ := H
   try dsimp only at H
   have A5 := a_ A50
   clear A50
   by_cases c6 : t1 = true
   case neg =>
    replace c6 := Bool.eq_false_iff.mpr c6
    subst c6
    rw [if_neg (show ¬ (false = true) by decide)] at H
    obtain rfl := Option.some.inj H
    have p284 : 0 ≤ (x0 : Int) := of_decide_eq_true hA_
    have q284 : x0 < (l1.length : Int) := of_decide_eq_true hA_
    obtain ⟨d0, e284, h0⟩ := Kd.at_int HR1.out x0 p284 q284
    cases e284
    replace h0 := cl_ HB.out h0
    replace p284 := eq_true p284
    replace q284 := eq_true q284
    go_wp2_with (first | ((with_reducible refine gate_callee (f := 25) rfl ?_); refine goesL_ _ rfl rfl Tryd.func25 (by kernel_rfl) rfl #[.int .i64 (rd l1 x0), .int .i64 0, .int .i64 3] rfl hL_ ?_; (with_reducible refine (sleuthref12_upTo.calls (rd l1 x0) 0 3 false _ A5.out).mono ?_); rintro e w' ⟨rfl, ⟨nd, rfl⟩⟩; refine ⟨_, rfl, ?_⟩))
    go_ret
    exact ⟨hV_, hC_⟩
   subst c6
   rw [if_pos rfl] at H
   have H' := a_ H
   clear H
   have p284 : 0 ≤ (x0 : Int) := of_decide_eq_true hA_
   have q284 : x0 < (l1.length : Int) := of_decide_eq_true hA_
   obtain ⟨d0, e284, h0⟩ := Kd.at_int HR1.out x0 p284 q284
   cases e284
   replace h0 := cl_ HB.out h0
   replace p284 := eq_true p284
   replace q284 := eq_true q284
   go_wp2_with (first | ((with_reducible refine gate_callee (f := 25) rfl ?_); refine goesL_ _ rfl rfl Tryd.func25 (by kernel_rfl) rfl #[.int .i64 (rd l1 x0), .int .i64 0, .int .i64 3] rfl hL_ ?_; (with_reducible refine (sleuthref12_upTo.calls (rd l1 x0) 0 3 true _ A5.out).mono ?_); rintro e w' ⟨rfl, ⟨nd, rfl⟩⟩; refine ⟨_, rfl, ?_⟩))
   go_roundg k1
   case measure => have := HK1.out; omega
   case rel => exact ⟨(wrap64 (x0 + 1)), hW_, H', ⟨by have := HK1.out; omega⟩, ⟨hC_⟩⟩
def sleuthref12_rooted.f (a0 : Int) : Option (Int × Int) := if a0 = 0 then (some (0, 0)) else (if a0 = 1 then (some (2, 0)) else (some (3, 0)))
theorem sleuthref12_rooted.calls (a0 : Int) (r1 : Int) (r2 : Int) (w : World) (h : sleuthref12_rooted.f a0 = some (r1, r2)) :
 Calls Tryd.prog 27 #[.int .i64 a0] w fun e w' => e = .returned (.agg #[.int .i64 r1, .int .i64 r2]) ∧ Below w.heap.size w w' := by
 have hu27 := Tryd.underlying27
 have HB := a_ (Below.refl w.heap.size w)
 have H := h; unfold sleuthref12_rooted.f at H
 clear h
 by_cases c2 : a0 = 0
 case pos =>
  rw [if_pos c2] at H
  have c2b0 : (a0 == 0) = true := beq_iff_eq.mpr c2
  have c2b1 : (a0 != 0) = false := bne_eq_false_iff_eq.mpr c2
  clear c2
  simp only [Option.some.injEq, Prod.mk.injEq] at H
  obtain ⟨rfl, rfl⟩ := H
  go_enter Tryd.func27, Tryd.ntmps27
  go_wp2_with (first | ((with_reducible refine gate_dst (N := 2) rfl ?_); refine boxE_ 2 #[.int .i64 0, .int .i64 0] 27 ?_; intro g0 hg w3 hbox hb; have B0 := a_ (hbox); have E0 := a_ ((gE_ hg : w.heap.size ≤ g0)); replace HB := a_ (below_step hB_ hb); clear hb hbox hg; obtain ⟨z0, z1, f0, f1⟩ := bx2_ B0.out))
  refine bodyPost_ret (results_cell_row rfl _ _ g0 27 #[.int .i64 0, .int .i64 0] (0, 0) _ rfl (bP_ (bP_ (hK_ B0.out))) Tryd.underlying27 rfl (by kernel_rfl)) rfl ?_
  exact ⟨hV_, hC_⟩
 rw [if_neg c2] at H
 have c2b0 : (a0 == 0) = false := beq_eq_false_iff_ne.mpr c2
 have c2b1 : (a0 != 0) = true := bne_iff_ne.mpr c2
 by_cases c5 : a0 = 1
 case neg =>
  rw [if_neg c5] at H
  have c5b0 : (a0 == 1) = false := beq_eq_false_iff_ne.mpr c5
  have c5b1 : (a0 != 1) = true := bne_iff_ne.mpr c5
  simp only [Option.some.injEq, Prod.mk.injEq] at H
  obtain ⟨rfl, rfl⟩ := H
  go_enter Tryd.func27, Tryd.ntmps27
  go_wp2_with (first | ((with_reducible refine gate_dst (N := 2) rfl ?_); refine boxE_ 2 #[.int .i64 0, .int .i64 0] 27 ?_; intro g0 hg w8 hbox hb; have B0 := a_ (hbox); have E0 := a_ ((gE_ hg : w.heap.size ≤ g0)); replace HB := a_ (below_step hB_ hb); clear hb hbox hg; obtain ⟨z2, z3, f2, f3⟩ := bx2_ B0.out))
  refine bodyPost_ret (results_cell_row rfl _ _ g0 27 #[.int .i64 3, .int .i64 0] (0, 0) _ rfl (bP_ (bP_ (hK_ B0.out))) Tryd.underlying27 rfl (by kernel_rfl)) rfl ?_
  exact ⟨hV_, hC_⟩

 rw [if_pos c5] at H
 have c5b0 : (a0 == 1) = true := beq_iff_eq.mpr c5
 have c5b1 : (a0 != 1) = false := bne_eq_false_iff_eq.mpr c5
 clear c5
 simp only [Option.some.injEq, Prod.mk.injEq] at H
 obtain ⟨rfl, rfl⟩ := H
 go_enter Tryd.func27, Tryd.ntmps27
 go_wp2_with (first | ((with_reducible refine gate_dst (N := 2) rfl ?_); refine boxE_ 2 #[.int .i64 0, .int .i64 0] 27 ?_; intro g0 hg w6 hbox hb; have B0 := a_ (hbox); have E0 := a_ ((gE_ hg : w.heap.size ≤ g0)); replace HB := a_ (below_step hB_ hb); clear hb hbox hg; obtain ⟨z4, z5, f4, f5⟩ := bx2_ B0.out))
 refine bodyPost_ret (results_cell_row rfl _ _ g0 27 #[.int .i64 2, .int .i64 0] (0, 0) _ rfl (bP_ (bP_ (hK_ B0.out))) Tryd.underlying27 rfl (by kernel_rfl)) rfl ?_
 exact ⟨hV_, hC_⟩
set_option maxHeartbeats 8000000
set_option maxRecDepth 100000
attribute [local go_sem] max2_int min2_int max_two min_two max_three min_three max_four min_four   -- for this text's walks alone
set_option linter.unusedVariables false
set_option linter.unusedSimpArgs false

def sleuthref12_kids.l0 : Nat → List (S40) → Int → List Int → Int → Option (List Int)
 | 0, _, _, _, _ => none
 | k + 1, x0, x1, x5, x6 => if x6 < (x0.length : Int) then (if 0 ≤ x6 then (if ((rd_T40 x0 x6).f1) = x1 then (if x5.length < 17592186044416 then (sleuthref12_kids.l0 k x0 x1 (x5 ++ [x6]) (wrap64 (x6 + 1))) else (none)) else (sleuthref12_kids.l0 k x0 x1 x5 (wrap64 (x6 + 1)))) else (none)) else (some x5)
def sleuthref12_kids.f (k : Nat) (l0 : List (S40)) (a1 : Int) : Option (List Int) := sleuthref12_kids.l0 k l0 a1 ([] : List Int) 0
theorem sleuthref12_kids.calls (k : Nat) (A0 : Option Addr) (c0 : Nat) (l0 : List (S40)) (a1 : Int) (r : List Int) (w : World) (hr0 : Kd.C k40 w A0 l0.length l0) (hc0 : l0.length ≤ c0) (h : sleuthref12_kids.f k l0 a1 = some r) :
 Calls Tryd.prog 28 #[.slice A0 l0.length c0, .int .i64 a1] w fun e w' => ∃ v0_ : Value, e = .returned (v0_) ∧ Kd.R (Kd.int .i64) 3 w' w.heap.size (fun _ => True) v0_ r ∧ Below w.heap.size w w' := by
 have HR0 := a_ hr0
 have HC0 := a_ hc0
 clear hr0 hc0
 have HB := a_ (Below.refl w.heap.size w)
 have H : (sleuthref12_kids.l0 k l0 a1 ([] : List Int) 0) = some r := h
 clear h
 have H' := a_ H
 clear H
 go_enter Tryd.func28, Tryd.ntmps28
 go_wp2
 go_loopg [5, 6] k (fun kq v5 v6 w' => ∃ (x1 : List Int) (x0 : Int), v6 = .int .i64 x0 ∧ Aside0 (sleuthref12_kids.l0 kq l0 a1 x1 x0 = some r) ∧ Aside0 (kq ≤ k) ∧ Aside0 (Kd.R (Kd.int .i64) 3 w' w.heap.size (fun _ => True) v5 x1) ∧ Aside0 (Below w.heap.size w w'))
 case atStart => exact ⟨(([] : List Int)), (0), hW_, H', ⟨Nat.le_refl _⟩, ⟨by first | exact Kd.R_nil _ _ _ _ _ | exact Kd.N_nil _ _ _ _ _ | exact Kd.V_nil _ _ _ _ _ | exact Kd.Q_nil _ _ _ _ _ | exact Kd.S_nil _ _ _ _ _⟩, ⟨hC_⟩⟩
 case round =>
  clear H'
  try clear c2
  try clear p2
  obtain ⟨x1, x0, rfl, HA, HK1, O0, HB⟩ := hrel
  cases gk with
  | zero => exact absurd HA.out (by simp [sleuthref12_kids.l0])
  | succ k1 =>
   have H := HA.out
   clear HA
   simp only [sleuthref12_kids.l0] at H
   by_cases c3 : x0 < (l0.length : Int)
   case neg =>
    rw [if_neg c3] at H
    have c3b0 : decide (x0 < (l0.length : Int)) = false := decide_eq_false c3
    clear c3
    obtain rfl := Option.some.inj H
    go_wp2
    go_ret
    exact ⟨_, hV_, hR_ O0.out, hC_⟩

   rw [if_pos c3] at H
   have c3b0 : decide (x0 < (l0.length : Int)) = true := decide_eq_true c3
   clear c3
   replace H := ifI_ H; obtain ⟨c4, H⟩ := H
   have c4b0 : decide (0 ≤ x0) = true := decide_eq_true c4
   clear c4
   by_cases c5 : ((rd_T40 l0 x0).f1) = a1
   case neg =>
    rw [if_neg c5] at H
    have c5b0 : (((rd_T40 l0 x0).f1) == a1) = false := beq_eq_false_iff_ne.mpr c5
    have c5b1 : (((rd_T40 l0 x0).f1) != a1) = true := bne_iff_ne.mpr c5
    have H' := a_ H
    clear H
    have p288 : 0 ≤ (x0 : Int) := of_decide_eq_true hA_
    have q288 : x0 < (l0.length : Int) := of_decide_eq_true hA_
    obtain ⟨d0, A288_2, c288_2, e288, h0, h1, h2, h3, hl288_2, hi288_2⟩ := at_T40 HR0.out x0 p288 q288
    cases e288
    replace h0 := cl_ HB.out h0
    replace h1 := cl_ HB.out h1
    replace h2 := cl_ HB.out h2
    replace h3 := cl_ HB.out h3
    have HR288_2 := a_ hi288_2
    have HC288_2 := a_ hl288_2
    clear hi288_2 hl288_2
    replace p288 := eq_true p288
    replace q288 := eq_true q288
    go_wp2
    go_roundg k1
    case measure => have := HK1.out; omega
    case rel => exact ⟨(x1), (wrap64 (x0 + 1)), hW_, H', ⟨by have := HK1.out; omega⟩, ⟨hR_ O0.out⟩, ⟨hC_⟩⟩
   rw [if_pos c5] at H
   have c5b0 : (((rd_T40 l0 x0).f1) == a1) = true := beq_iff_eq.mpr c5
   have c5b1 : (((rd_T40 l0 x0).f1) != a1) = false := bne_eq_false_iff_eq.mpr c5
   clear c5
   replace H := ifI_ H; obtain ⟨c6, H⟩ := H
   have LMc6 := a_ c6
   clear c6
   obtain ⟨y0, i0⟩ : ∃ y_ : List Int, y_ = (x1 ++ [x0]) := ⟨_, rfl⟩
   replace H : (sleuthref12_kids.l0 k1 l0 a1 y0 (wrap64 (x0 + 1))) = some r := by first | (rw [i0]; with_reducible exact H) | (have H2_ := (Option.bind_some _ _).symm.trans H; rw [i0]; with_reducible exact H2_) | (have H2_ := (Option.bind_some _ _).symm.trans H; with_reducible exact H2_) | with_reducible exact H | (rw [i0]; exact H) | exact H
   have Y0 := a_ i0
   clear i0
   have H' := a_ H
   clear H
   have p288 : 0 ≤ (x0 : Int) := of_decide_eq_true hA_
   have q288 : x0 < (l0.length : Int) := of_decide_eq_true hA_
   obtain ⟨d0, A288_2, c288_2, e288, h0, h1, h2, h3, hl288_2, hi288_2⟩ := at_T40 HR0.out x0 p288 q288
   cases e288
   replace h0 := cl_ HB.out h0
   replace h1 := cl_ HB.out h1
   replace h2 := cl_ HB.out h2
   replace h3 := cl_ HB.out h3
   have HR288_2 := a_ hi288_2
   have HC288_2 := a_ hl288_2
   clear hi288_2 hl288_2
   replace p288 := eq_true p288
   replace q288 := eq_true q288
   go_wp2_with (first | ((with_reducible refine gate_builtin (b := .append) (xs := #[.tmp 20, .tmp 22]) rfl ?_); at_builtin; refine Kd.R_append (Kd.int .i64) (w0 := w) w.heap.size rfl (.tmp 20) (.tmp 22) 23 3 (.int .i64 0) 8 rfl Tryd.underlying23 info3 rfl (by decide) (by omega) u5 x1 x0 [.int .i64 x0] (fun _ => True) (fun _ => False) rfl rfl ?aP (fun _ hk => hk.elim) ?aF ?aO ?aB ?aS ?aL ?_; (case aP => exact rfl); (case aB => exact hB_); (case aF => exact (fun _ _ => trivial)); (case aO => exact (hR_ O0.out)); (case aS => exact hS_); (case aL => have := LMc6.out; omega); intro v0 w7 ho hb hg hat; rw [← Y0.out] at ho; replace HB := a_ (hb); have P0 := a_ (ho); clear O0; clear ho hb hg hat))
   go_roundg k1
   case measure => have := HK1.out; omega
   case rel => exact ⟨(y0), (wrap64 (x0 + 1)), hW_, H', ⟨by have := HK1.out; omega⟩, ⟨hR_ P0.out⟩, ⟨hC_⟩⟩
def sleuthref12_firstOf.l0 : Nat → List Int → List Int → Int → Int → Option (Int)
 | 0, _, _, _, _ => none
 | k + 1, x0, x1, x2, x7 => if x7 < (x0.length : Int) then (if 0 ≤ x7 then (if 0 ≤ (rd x0 x7) then (if (rd x0 x7) < (x1.length : Int) then (if (rd x1 (rd x0 x7)) = x2 then (some (rd x0 x7)) else (sleuthref12_firstOf.l0 k x0 x1 x2 (wrap64 (x7 + 1)))) else (none)) else (none)) else (none)) else (some (-1))
def sleuthref12_firstOf.f (k : Nat) (l0 : List Int) (l1 : List Int) (a2 : Int) : Option (Int) := sleuthref12_firstOf.l0 k l0 l1 a2 0
theorem sleuthref12_firstOf.calls (k : Nat) (A0 : Option Addr) (c0 : Nat) (l0 : List Int) (A1 : Option Addr) (c1 : Nat) (l1 : List Int) (a2 : Int) (r : Int) (w : World) (hr0 : Kd.C (Kd.int .i64) w A0 l0.length l0) (hc0 : l0.length ≤ c0) (hr1 : Kd.C (Kd.int .i64) w A1 l1.length l1) (hc1 : l1.length ≤ c1) (h : sleuthref12_firstOf.f k l0 l1 a2 = some r) :
 Calls Tryd.prog 29 #[.slice A0 l0.length c0, .slice A1 l1.length c1, .int .i64 a2] w fun e w' => e = .returned (.int .i64 r) ∧ Drawn0 w w' := by
 have HR0 := a_ hr0
 have HC0 := a_ hc0
 clear hr0 hc0
 have HR1 := a_ hr1
 have HC1 := a_ hc1
 clear hr1 hc1
 have H : (sleuthref12_firstOf.l0 k l0 l1 a2 0) = some r := h
 clear h
 have H' := a_ H
 clear H
 go_enter Tryd.func29, Tryd.ntmps29
 go_wp2
 go_loopg [7] k (fun kq v7 w' => ∃ (x0 : Int), v7 = .int .i64 x0 ∧ Aside0 (sleuthref12_firstOf.l0 kq l0 l1 a2 x0 = some r) ∧ Aside0 (kq ≤ k) ∧ Drawn0 w w')
 case atStart => exact ⟨(0), hW_, H', ⟨Nat.le_refl _⟩, by repeat (first | exact Drawn0.refl _ | apply Drawn0.step)⟩
 case round =>
  clear H'
  try clear c1
  try clear c2
  try clear p2
  obtain ⟨x0, rfl, HA, HK1, ⟨m1, rfl⟩⟩ := hrel
  cases gk with
  | zero => exact absurd HA.out (by simp [sleuthref12_firstOf.l0])
  | succ k1 =>
   have H := HA.out
   clear HA
   simp only [sleuthref12_firstOf.l0] at H
   by_cases c4 : x0 < (l0.length : Int)
   case neg =>
    rw [if_neg c4] at H
    have c4b0 : decide (x0 < (l0.length : Int)) = false := decide_eq_false c4
    clear c4
    obtain rfl := Option.some.inj H
    go_wp2
    go_ret
    exact ⟨by first | rfl | (simp; done) | (simp [*]; done), by repeat (first | exact Drawn0.refl _ | apply Drawn0.step)⟩

   rw [if_pos c4] at H
   have c4b0 : decide (x0 < (l0.length : Int)) = true := decide_eq_true c4
   clear c4
   replace H := ifI_ H; obtain ⟨c5, H⟩ := H
   have c5b0 : decide (0 ≤ x0) = true := decide_eq_true c5
   clear c5
   replace H := ifI_ H; obtain ⟨c6, H⟩ := H
   have c6b0 : decide (0 ≤ (rd l0 x0)) = true := decide_eq_true c6
   clear c6
   replace H := ifI_ H; obtain ⟨c7, H⟩ := H
   have c7b0 : decide ((rd l0 x0) < (l1.length : Int)) = true := decide_eq_true c7
   clear c7
   by_cases c8 : (rd l1 (rd l0 x0)) = a2
   case neg =>
    rw [if_neg c8] at H
    have c8b0 : ((rd l1 (rd l0 x0)) == a2) = false := beq_eq_false_iff_ne.mpr c8
    have c8b1 : ((rd l1 (rd l0 x0)) != a2) = true := bne_iff_ne.mpr c8
    have H' := a_ H
    clear H
    have p292 : 0 ≤ (x0 : Int) := of_decide_eq_true hA_
    have q292 : x0 < (l0.length : Int) := of_decide_eq_true hA_
    obtain ⟨d0, e292, h0⟩ := Kd.at_int HR0.out x0 p292 q292
    cases e292
    replace p292 := eq_true p292
    replace q292 := eq_true q292
    have p293 : 0 ≤ ((rd l0 x0) : Int) := of_decide_eq_true hA_
    have q293 : (rd l0 x0) < (l1.length : Int) := of_decide_eq_true hA_
    obtain ⟨d1, e293, h1⟩ := Kd.at_int HR1.out (rd l0 x0) p293 q293
    cases e293
    replace p293 := eq_true p293
    replace q293 := eq_true q293
    go_wp2
    go_roundg k1
    case measure => have := HK1.out; omega
    case rel => exact ⟨(wrap64 (x0 + 1)), hW_, H', ⟨by have := HK1.out; omega⟩, by repeat (first | exact Drawn0.refl _ | apply Drawn0.step)⟩
   rw [if_pos c8] at H
   have c8b0 : ((rd l1 (rd l0 x0)) == a2) = true := beq_iff_eq.mpr c8
   have c8b1 : ((rd l1 (rd l0 x0)) != a2) = false := bne_eq_false_iff_eq.mpr c8
   clear c8
   obtain rfl := Option.some.inj H
   have p292 : 0 ≤ (x0 : Int) := of_decide_eq_true hA_
   have q292 : x0 < (l0.length : Int) := of_decide_eq_true hA_
   obtain ⟨d0, e292, h0⟩ := Kd.at_int HR0.out x0 p292 q292
   cases e292
   replace p292 := eq_true p292
   replace q292 := eq_true q292
   have p293 : 0 ≤ ((rd l0 x0) : Int) := of_decide_eq_true hA_
   have q293 : (rd l0 x0) < (l1.length : Int) := of_decide_eq_true hA_
   obtain ⟨d1, e293, h1⟩ := Kd.at_int HR1.out (rd l0 x0) p293 q293
   cases e293
   replace p293 := eq_true p293
   replace q293 := eq_true q293
   have p294 : 0 ≤ (x0 : Int) := of_decide_eq_true hA_
   have q294 : x0 < (l0.length : Int) := of_decide_eq_true hA_
   obtain ⟨d2, e294, h2⟩ := Kd.at_int HR0.out x0 p294 q294
   obtain rfl : d0 = d2 := (by injection e294)
   replace p294 := eq_true p294
   replace q294 := eq_true q294
   go_wp2
   go_ret
   exact ⟨by first | rfl | (simp; done) | (simp [*]; done), by repeat (first | exact Drawn0.refl _ | apply Drawn0.step)⟩
set_option maxHeartbeats 8000000
set_option maxRecDepth 100000
attribute [local go_sem] max2_int min2_int max_two min_two max_three min_three max_four min_four   -- for this text's walks alone
set_option linter.unusedVariables false
set_option linter.unusedSimpArgs false

def sleuthref12_verdict.l0 : Nat → List Int → Int → List Int → Int → Option (Int × Int)
 | 0, _, _, _, _ => none
 | k + 1, x1, x2, x7, x8 => if x8 < (x7.length : Int) then (if 0 ≤ x8 then (if 0 ≤ (rd x7 x8) then (if (rd x7 x8) < (x1.length : Int) then (if (rd x1 (rd x7 x8)) = 1 then (sleuthref12_verdict.l0 k x1 x2 x7 (wrap64 (x8 + 1))) else (some (3, 0))) else (none)) else (none)) else (none)) else (some (1, x2))
def sleuthref12_verdict.f (k : Nat) (l0 : List (S40)) (l1 : List Int) (a2 : Int) : Option (Int × Int) := (sleuthref12_kids.f k l0 a2).bind fun t296 => (sleuthref12_verdict.l0 k l1 a2 t296 0)
theorem sleuthref12_verdict.calls (k : Nat) (A0 : Option Addr) (c0 : Nat) (l0 : List (S40)) (A1 : Option Addr) (c1 : Nat) (l1 : List Int) (a2 : Int) (r1 : Int) (r2 : Int) (w : World) (hr0 : Kd.C k40 w A0 l0.length l0) (hc0 : l0.length ≤ c0) (hr1 : Kd.C (Kd.int .i64) w A1 l1.length l1) (hc1 : l1.length ≤ c1) (h : sleuthref12_verdict.f k l0 l1 a2 = some (r1, r2)) :
 Calls Tryd.prog 30 #[.slice A0 l0.length c0, .slice A1 l1.length c1, .int .i64 a2] w fun e w' => e = .returned (.agg #[.int .i64 r1, .int .i64 r2]) ∧ Below w.heap.size w w' := by
 have hu27 := Tryd.underlying27
 have HR0 := a_ hr0
 have HC0 := a_ hc0
 clear hr0 hc0
 have HR1 := a_ hr1
 have HC1 := a_ hc1
 clear hr1 hc1
 have HB := a_ (Below.refl w.heap.size w)
 have H := h; unfold sleuthref12_verdict.f at H
 clear h
 replace H := Option.bind_eq_some_iff.mp H
 obtain ⟨t0, A40, H⟩ := H
 try dsimp only at H
 have A4 := a_ A40
 clear A40
 have H' := a_ H
 clear H
 go_enter Tryd.func30, Tryd.ntmps30
 go_wp2_with (first | ((with_reducible refine gate_dst (N := 6) rfl ?_); refine boxE_ 6 #[.int .i64 0, .int .i64 0] 27 ?_; intro g0 hg w5 hbox hb; have B0 := a_ (hbox); have E0 := a_ ((gE_ hg : w.heap.size ≤ g0)); replace HB := a_ (below_step hB_ hb); clear hb hbox hg) | ((with_reducible refine gate_callee (f := 28) rfl ?_); refine goesL_ (some 11) rfl rfl Tryd.func28 (by kernel_rfl) rfl #[.slice A0 l0.length c0, .int .i64 a2] rfl hL_ ?_; (with_reducible refine (sleuthref12_kids.calls k _ _ l0 a2 t0 _ ?s1 ?s2 A4.out).mono ?_); (case s1 => exact cB_ HR0.out); (case s2 => exact HC0.out); rintro e w6 ⟨v0, rfl, ho0, hb⟩; refine ⟨_, rfl, ?_⟩; have P0 := a_ (Kd.R_lower ho0 (below_size hC_)); replace B0 := a_ (bB_ B0.out hb); replace HB := a_ (below_step hC_ hb); (try clear hb); (try clear hb2); (try clear hk); (try clear hi); (try clear ho0)))
 (try simp only [Act.put, List.setIfInBounds_toArray, List.set_cons_zero, List.set_cons_succ])
 go_loopg [8] k (fun kq v8 w' => ∃ (x0 : Int) (x1 : Int) (x2 : Int), v8 = .int .i64 x0 ∧ Aside0 (sleuthref12_verdict.l0 kq l1 a2 t0 x0 = some (r1, r2)) ∧ Aside0 (kq ≤ k) ∧ Aside0 (Kd.R (Kd.int .i64) 3 w' w.heap.size (fun _ => True) v0 t0) ∧ Aside0 (w'.heap[g0]? = some (.cells #[.int .i64 x1, .int .i64 x2] 27 (0, 0))) ∧ Aside0 (Below w.heap.size w w'))
 case atStart => exact ⟨(0), (0), (0), hW_, H', ⟨Nat.le_refl _⟩, ⟨hR_ P0.out⟩, ⟨(hK_ B0.out)⟩, ⟨hC_⟩⟩
 case round =>
  clear H'
  try clear c1
  try clear c2
  try clear p2
  try clear c3
  obtain ⟨x0, x1, x2, rfl, HA, HK1, O0, B0, HB⟩ := hrel
  cases gk with
  | zero => exact absurd HA.out (by simp [sleuthref12_verdict.l0])
  | succ k1 =>
   have H := HA.out
   clear HA
   simp only [sleuthref12_verdict.l0] at H
   by_cases c7 : x0 < (t0.length : Int)
   case neg =>
    rw [if_neg c7] at H
    have c7b0 : decide (x0 < (t0.length : Int)) = false := decide_eq_false c7
    clear c7
    simp only [Option.some.injEq, Prod.mk.injEq] at H
    obtain ⟨rfl, rfl⟩ := H
    obtain ⟨a0, o0, e0⟩ := Kd.R_slice O0.out
    subst e0
    obtain ⟨z0, z1, f0, f1⟩ := bx2_ B0.out
    go_wp2
    refine bodyPost_ret (results_cell_row rfl _ _ g0 27 #[.int .i64 1, .int .i64 a2] (0, 0) _ rfl (bP_ (bP_ (hK_ B0.out))) Tryd.underlying27 rfl (by kernel_rfl)) rfl ?_
    exact ⟨hV_, hC_⟩

   rw [if_pos c7] at H
   have c7b0 : decide (x0 < (t0.length : Int)) = true := decide_eq_true c7
   clear c7
   replace H := ifI_ H; obtain ⟨c8, H⟩ := H
   have c8b0 : decide (0 ≤ x0) = true := decide_eq_true c8
   clear c8
   replace H := ifI_ H; obtain ⟨c9, H⟩ := H
   have c9b0 : decide (0 ≤ (rd t0 x0)) = true := decide_eq_true c9
   clear c9
   replace H := ifI_ H; obtain ⟨c10, H⟩ := H
   have c10b0 : decide ((rd t0 x0) < (l1.length : Int)) = true := decide_eq_true c10
   clear c10
   by_cases c11 : (rd l1 (rd t0 x0)) = 1
   case pos =>
    rw [if_pos c11] at H
    have c11b0 : ((rd l1 (rd t0 x0)) == 1) = true := beq_iff_eq.mpr c11
    have c11b1 : ((rd l1 (rd t0 x0)) != 1) = false := bne_eq_false_iff_eq.mpr c11
    clear c11
    have H' := a_ H
    clear H
    obtain ⟨a1, o1, e1⟩ := Kd.R_slice O0.out
    subst e1
    have p299 : 0 ≤ (x0 : Int) := of_decide_eq_true hA_
    have q299 : x0 < (t0.length : Int) := of_decide_eq_true hA_
    obtain ⟨d0, e299, h1⟩ := Kd.at_int (Kd.R_reads' O0.out).2.2 x0 p299 q299
    cases e299
    replace p299 := eq_true p299
    replace q299 := eq_true q299
    have p300 : 0 ≤ ((rd t0 x0) : Int) := of_decide_eq_true hA_
    have q300 : (rd t0 x0) < (l1.length : Int) := of_decide_eq_true hA_
    obtain ⟨d1, e300, h0⟩ := Kd.at_int HR1.out (rd t0 x0) p300 q300
    cases e300
    replace h0 := cl_ HB.out h0
    replace p300 := eq_true p300
    replace q300 := eq_true q300
    go_wp2
    go_roundg k1
    case measure => have := HK1.out; omega
    case rel => exact ⟨(wrap64 (x0 + 1)), (x1), (x2), hW_, H', ⟨by have := HK1.out; omega⟩, ⟨hR_ O0.out⟩, ⟨(hK_ B0.out)⟩, ⟨hC_⟩⟩
   rw [if_neg c11] at H
   have c11b0 : ((rd l1 (rd t0 x0)) == 1) = false := beq_eq_false_iff_ne.mpr c11
   have c11b1 : ((rd l1 (rd t0 x0)) != 1) = true := bne_iff_ne.mpr c11
   simp only [Option.some.injEq, Prod.mk.injEq] at H
   obtain ⟨rfl, rfl⟩ := H
   obtain ⟨a3, o2, e2⟩ := Kd.R_slice O0.out
   subst e2
   have p299 : 0 ≤ (x0 : Int) := of_decide_eq_true hA_
   have q299 : x0 < (t0.length : Int) := of_decide_eq_true hA_
   obtain ⟨d0, e299, h1⟩ := Kd.at_int (Kd.R_reads' O0.out).2.2 x0 p299 q299
   cases e299
   replace p299 := eq_true p299
   replace q299 := eq_true q299
   have p300 : 0 ≤ ((rd t0 x0) : Int) := of_decide_eq_true hA_
   have q300 : (rd t0 x0) < (l1.length : Int) := of_decide_eq_true hA_
   obtain ⟨d1, e300, h0⟩ := Kd.at_int HR1.out (rd t0 x0) p300 q300
   cases e300
   replace h0 := cl_ HB.out h0
   replace p300 := eq_true p300
   replace q300 := eq_true q300
   obtain ⟨z2, z3, f2, f3⟩ := bx2_ B0.out
   go_wp2
   refine bodyPost_ret (results_cell_row rfl _ _ g0 27 #[.int .i64 3, .int .i64 0] (0, 0) _ rfl (bP_ (bP_ (hK_ B0.out))) Tryd.underlying27 rfl (by kernel_rfl)) rfl ?_
   exact ⟨hV_, hC_⟩
set_option maxHeartbeats 8000000
set_option maxRecDepth 100000
attribute [local go_sem] max2_int min2_int max_two min_two max_three min_three max_four min_four   -- for this text's walks alone
set_option linter.unusedVariables false
set_option linter.unusedSimpArgs false

def sleuthref12_topDown.l0 : Nat → List (S40) → List Int → Int → Option (Int × Int)
 | 0, _, _, _ => none
 | k + 1, x0, x1, x5 => (sleuthref12_kids.f k x0 x5).bind fun t306 => ((sleuthref12_firstOf.f k t306 x1 2).bind fun t309 => (if t309 < 0 then ((sleuthref12_kids.f k x0 x5).bind fun t310 => ((sleuthref12_firstOf.f k t310 x1 0).bind fun t313 => (if t313 ≥ 0 then (some (0, t313)) else ((sleuthref12_verdict.f k x0 x1 x5).bind fun bt314 => (some (bt314.1, bt314.2)))))) else (sleuthref12_topDown.l0 k x0 x1 t309)))
def sleuthref12_topDown.f (k : Nat) (l0 : List (S40)) (l1 : List Int) : Option (Int × Int) := if 0 < (l1.length : Int) then (if (rd l1 0) = 2 then (sleuthref12_topDown.l0 k l0 l1 0) else ((sleuthref12_rooted.f (rd l1 0)).bind fun bt304 => (some (bt304.1, bt304.2)))) else (none)
theorem sleuthref12_topDown.calls (k : Nat) (A0 : Option Addr) (c0 : Nat) (l0 : List (S40)) (A1 : Option Addr) (c1 : Nat) (l1 : List Int) (r1 : Int) (r2 : Int) (w : World) (hr0 : Kd.C k40 w A0 l0.length l0) (hc0 : l0.length ≤ c0) (hr1 : Kd.C (Kd.int .i64) w A1 l1.length l1) (hc1 : l1.length ≤ c1) (h : sleuthref12_topDown.f k l0 l1 = some (r1, r2)) :
 Calls Tryd.prog 16 #[.slice A0 l0.length c0, .slice A1 l1.length c1] w fun e w' => e = .returned (.agg #[.int .i64 r1, .int .i64 r2]) ∧ Below w.heap.size w w' := by
 have hu27 := Tryd.underlying27
 have HR0 := a_ hr0
 have HC0 := a_ hc0
 clear hr0 hc0
 have HR1 := a_ hr1
 have HC1 := a_ hc1
 clear hr1 hc1
 have HB := a_ (Below.refl w.heap.size w)
 have H := h; unfold sleuthref12_topDown.f at H
 clear h
 replace H := ifI_ H; obtain ⟨c3, H⟩ := H
 have c3b0 : decide (0 < (l1.length : Int)) = true := decide_eq_true c3
 have c3b1 : decide (0 < l1.length) = true := decide_eq_true (by omega)
 clear c3
 by_cases c4 : (rd l1 0) = 2
 case neg =>
  rw [if_neg c4] at H
  have c4b0 : ((rd l1 0) == 2) = false := beq_eq_false_iff_ne.mpr c4
  have c4b1 : ((rd l1 0) != 2) = true := bne_iff_ne.mpr c4
  replace H := Option.bind_eq_some_iff.mp H
  obtain ⟨⟨t4, t5⟩, A260, H⟩ := H
  try dsimp only at H
  have A26 := a_ A260
  clear A260
  simp only [Option.some.injEq, Prod.mk.injEq] at H
  obtain ⟨rfl, rfl⟩ := H
  go_enter Tryd.func16, Tryd.ntmps16
  go_wp2_with (first | ((with_reducible refine gate_dst (N := 4) rfl ?_); refine boxE_ 4 #[.int .i64 0, .int .i64 0] 27 ?_; intro g0 hg w4 hbox hb; have B0 := a_ (hbox); have E0 := a_ ((gE_ hg : w.heap.size ≤ g0)); replace HB := a_ (below_step hB_ hb); clear hb hbox hg; have p302 : 0 ≤ (0 : Int) := (by omega); have q302 : 0 < (l1.length : Int) := of_decide_eq_true hA_; obtain ⟨d0, e302, h0⟩ := Kd.at_int HR1.out 0 p302 q302; cases e302; have qi302 : (0 < l1.length) = True := eq_true (by omega); (try rw [show ((0 : Int)).toNat = 0 from rfl] at h0); (try rw [Addr.add_zero'] at h0); replace h0 := cl_ HB.out h0; replace p302 := eq_true p302; replace q302 := eq_true q302; have p303 : 0 ≤ (0 : Int) := (by omega); have q303 : 0 < (l1.length : Int) := of_decide_eq_true hA_; obtain ⟨d1, e303, h1⟩ := Kd.at_int HR1.out 0 p303 q303; obtain rfl : d0 = d1 := (by injection e303); have qi303 : (0 < l1.length) = True := eq_true (by omega); (try rw [show ((0 : Int)).toNat = 0 from rfl] at h1); (try rw [Addr.add_zero'] at h1); replace h1 := cl_ HB.out h1; replace p303 := eq_true p303; replace q303 := eq_true q303) | ((with_reducible refine gate_callee (f := 27) rfl ?_); refine goesL_ (some 16) rfl rfl Tryd.func27 (by kernel_rfl) rfl #[.int .i64 (rd l1 0)] rfl hL_ ?_; (with_reducible refine (sleuthref12_rooted.calls (rd l1 0) t4 t5 _ A26.out).mono ?_); rintro e w6 ⟨rfl, hb⟩; refine ⟨_, rfl, ?_⟩; replace B0 := a_ (bB_ B0.out hb); replace HB := a_ (below_step hC_ hb); (try clear hb); (try clear hb2); (try clear hk); (try clear hi); obtain ⟨z0, z1, f0, f1⟩ := bx2_ B0.out))
  refine bodyPost_ret (results_cell_row rfl _ _ g0 27 #[.int .i64 t4, .int .i64 t5] (0, 0) _ rfl (bP_ (bP_ (hK_ B0.out))) Tryd.underlying27 rfl (by kernel_rfl)) rfl ?_
  exact ⟨hV_, hC_⟩
 rw [if_pos c4] at H
 have c4b0 : ((rd l1 0) == 2) = true := beq_iff_eq.mpr c4
 have c4b1 : ((rd l1 0) != 2) = false := bne_eq_false_iff_eq.mpr c4
 clear c4
 have H' := a_ H
 clear H
 go_enter Tryd.func16, Tryd.ntmps16
 go_wp2_with (first | ((with_reducible refine gate_dst (N := 4) rfl ?_); refine boxE_ 4 #[.int .i64 0, .int .i64 0] 27 ?_; intro g0 hg w5 hbox hb; have B0 := a_ (hbox); have E0 := a_ ((gE_ hg : w.heap.size ≤ g0)); replace HB := a_ (below_step hB_ hb); clear hb hbox hg; have p302 : 0 ≤ (0 : Int) := (by omega); have q302 : 0 < (l1.length : Int) := of_decide_eq_true hA_; obtain ⟨d0, e302, h0⟩ := Kd.at_int HR1.out 0 p302 q302; cases e302; have qi302 : (0 < l1.length) = True := eq_true (by omega); (try rw [show ((0 : Int)).toNat = 0 from rfl] at h0); (try rw [Addr.add_zero'] at h0); replace h0 := cl_ HB.out h0; replace p302 := eq_true p302; replace q302 := eq_true q302))
 (try simp only [Act.put, List.setIfInBounds_toArray, List.set_cons_zero, List.set_cons_succ])
 go_loopg [5] k (fun kq v5 w' => ∃ (x0 : Int), v5 = .int .i64 x0 ∧ Aside0 (sleuthref12_topDown.l0 kq l0 l1 x0 = some (r1, r2)) ∧ Aside0 (kq ≤ k) ∧ Aside0 (w'.heap[g0]? = some (.cells #[.int .i64 0, .int .i64 0] 27 (0, 0))) ∧ Aside0 (Below w.heap.size w w'))
 case atStart => exact ⟨(0), hW_, H', ⟨Nat.le_refl _⟩, ⟨(hK_ B0.out)⟩, ⟨hC_⟩⟩
 case round =>
  clear H'
  try clear c1
  try clear p2
  try clear c3
  try clear c3b0
  try clear c3b1
  try clear p3
  try clear q3
  try clear h2
  try clear qi3
  try clear c4
  try clear c4b0
  try clear c4b1
  try clear h0
  try clear p302
  try clear q302
  obtain ⟨x0, rfl, HA, HK1, B0, HB⟩ := hrel
  cases gk with
  | zero => exact absurd HA.out (by simp [sleuthref12_topDown.l0])
  | succ k1 =>
   have H := HA.out
   clear HA
   simp only [sleuthref12_topDown.l0] at H
   replace H := Option.bind_eq_some_iff.mp H
   obtain ⟨t0, A60, H⟩ := H
   try dsimp only at H
   have A6 := a_ A60
   clear A60
   replace H := Option.bind_eq_some_iff.mp H
   obtain ⟨t2, A70, H⟩ := H
   try dsimp only at H
   have A7 := a_ A70
   clear A70
   by_cases c8 : t2 < 0
   case neg =>
    rw [if_neg c8] at H
    have c8b0 : decide (t2 < 0) = false := decide_eq_false c8
    clear c8
    have H' := a_ H
    clear H
    go_wp2_with (first | ((with_reducible refine gate_callee (f := 28) rfl ?_); refine goesL_ (some 19) rfl rfl Tryd.func28 (by kernel_rfl) rfl #[.slice A0 l0.length c0, .int .i64 x0] rfl hL_ ?_; (with_reducible refine (sleuthref12_kids.calls k1 _ _ l0 x0 t0 _ ?s1 ?s2 A6.out).mono ?_); (case s1 => exact cB_ HR0.out); (case s2 => exact HC0.out); rintro e w7 ⟨v0, rfl, ho0, hb⟩; refine ⟨_, rfl, ?_⟩; have P0 := a_ (Kd.R_lower ho0 (below_size hC_)); replace B0 := a_ (bB_ B0.out hb); replace HB := a_ (below_step hC_ hb); (try clear hb); (try clear hb2); (try clear hk); (try clear hi); (try clear ho0); obtain ⟨a4, o4, e0⟩ := Kd.R_slice P0.out; subst e0) | ((with_reducible refine gate_callee (f := 29) rfl ?_); refine goesL_ _ rfl rfl Tryd.func29 (by kernel_rfl) rfl #[.slice a4 t0.length o4, .slice (some d0) l1.length c1, .int .i64 2] rfl hL_ ?_; (with_reducible refine (sleuthref12_firstOf.calls k1 _ _ t0 _ _ l1 2 t2 _ ?s1 ?s2 ?s3 ?s4 A7.out).mono ?_); (case s1 => exact cC_ (Kd.R_reads' P0.out).2.2); (case s2 => exact (Kd.R_reads' P0.out).2.1); (case s3 => exact cB_ HR1.out); (case s4 => exact HC1.out); rintro e w' ⟨rfl, ⟨nd, rfl⟩⟩; refine ⟨_, rfl, ?_⟩))
    go_roundg k1
    case measure => have := HK1.out; omega
    case rel => exact ⟨(t2), hW_, H', ⟨by have := HK1.out; omega⟩, ⟨(hK_ B0.out)⟩, ⟨hC_⟩⟩
   rw [if_pos c8] at H
   have c8b0 : decide (t2 < 0) = true := decide_eq_true c8
   clear c8
   replace H := Option.bind_eq_some_iff.mp H
   obtain ⟨t1, A90, H⟩ := H
   try dsimp only at H
   have A9 := a_ A90
   clear A90
   replace H := Option.bind_eq_some_iff.mp H
   obtain ⟨t3, A100, H⟩ := H
   try dsimp only at H
   have A10 := a_ A100
   clear A100
   by_cases c11 : t3 ≥ 0
   case pos =>
    rw [if_pos c11] at H
    have c11b0 : decide (0 ≤ t3) = true := decide_eq_true c11
    clear c11
    simp only [Option.some.injEq, Prod.mk.injEq] at H
    obtain ⟨rfl, rfl⟩ := H
    go_wp2_with (first | ((with_reducible refine gate_callee (f := 28) rfl ?_); refine goesL_ (some 19) rfl rfl Tryd.func28 (by kernel_rfl) rfl #[.slice A0 l0.length c0, .int .i64 x0] rfl hL_ ?_; (with_reducible refine (sleuthref12_kids.calls k1 _ _ l0 x0 t0 _ ?s1 ?s2 A6.out).mono ?_); (case s1 => exact cB_ HR0.out); (case s2 => exact HC0.out); rintro e w2 ⟨v0, rfl, ho0, hb⟩; refine ⟨_, rfl, ?_⟩; have P0 := a_ (Kd.R_lower ho0 (below_size hC_)); replace B0 := a_ (bB_ B0.out hb); replace HB := a_ (below_step hC_ hb); (try clear hb); (try clear hb2); (try clear hk); (try clear hi); (try clear ho0); obtain ⟨a0, o0, e1⟩ := Kd.R_slice P0.out; subst e1) | ((with_reducible refine gate_callee (f := 29) rfl ?_); refine goesL_ _ rfl rfl Tryd.func29 (by kernel_rfl) rfl #[.slice a0 t0.length o0, .slice (some d0) l1.length c1, .int .i64 2] rfl hL_ ?_; (with_reducible refine (sleuthref12_firstOf.calls k1 _ _ t0 _ _ l1 2 t2 _ ?s1 ?s2 ?s3 ?s4 A7.out).mono ?_); (case s1 => exact cC_ (Kd.R_reads' P0.out).2.2); (case s2 => exact (Kd.R_reads' P0.out).2.1); (case s3 => exact cB_ HR1.out); (case s4 => exact HC1.out); rintro e w' ⟨rfl, ⟨nd, rfl⟩⟩; refine ⟨_, rfl, ?_⟩; (try (rw [drewN_self w2]; generalize hq_ : World.drewN w2 _ = w2; replace P0 : Aside0 (Kd.R (Kd.int .i64) 3 w2 w.heap.size (fun _ => True) (.slice a0 t0.length o0) t0) := ⟨by rw [← hq_]; exact (hR_ P0.out)⟩; replace B0 : Aside0 (w2.heap[g0]? = some (.cells #[.int .i64 0, .int .i64 0] 27 (0, 0))) := ⟨by rw [← hq_]; exact (hK_ B0.out)⟩; replace HB : Aside0 (Below w.heap.size w w2) := ⟨by rw [← hq_]; exact hC_⟩; clear hq_; (try have hcu0_0 := bc0_ B0.out); (try have hfu0_0 := blk_frozen B0.out 0); (try have hcu0_1 := bc1_ B0.out); (try have hfu0_1 := blk_frozen B0.out 1)))) | ((with_reducible refine gate_callee (f := 28) rfl ?_); refine goesL_ (some 28) rfl rfl Tryd.func28 (by kernel_rfl) rfl #[.slice A0 l0.length c0, .int .i64 x0] rfl hL_ ?_; (with_reducible refine (sleuthref12_kids.calls k1 _ _ l0 x0 t1 _ ?s1 ?s2 A9.out).mono ?_); (case s1 => exact cB_ HR0.out); (case s2 => exact HC0.out); rintro e w0 ⟨v1, rfl, ho0, hb⟩; refine ⟨_, rfl, ?_⟩; have P1 := a_ (Kd.R_lower (Kd.R_new' ho0 (Kd.R_lt (hR_ P0.out))) (below_size hC_)); replace P0 := a_ (Kd.R_elder' (hR_ P0.out) (Kd.R_base ho0) hb); replace B0 := a_ (bB_ B0.out hb); replace HB := a_ (below_step hC_ hb); (try clear hb); (try clear hb2); (try clear hk); (try clear hi); (try clear ho0); obtain ⟨a2, o2, e2⟩ := Kd.R_slice P1.out; subst e2) | ((with_reducible refine gate_callee (f := 29) rfl ?_); refine goesL_ _ rfl rfl Tryd.func29 (by kernel_rfl) rfl #[.slice a2 t1.length o2, .slice (some d0) l1.length c1, .int .i64 0] rfl hL_ ?_; (with_reducible refine (sleuthref12_firstOf.calls k1 _ _ t1 _ _ l1 0 t3 _ ?s1 ?s2 ?s3 ?s4 A10.out).mono ?_); (case s1 => exact cC_ (Kd.R_reads' P1.out).2.2); (case s2 => exact (Kd.R_reads' P1.out).2.1); (case s3 => exact cB_ HR1.out); (case s4 => exact HC1.out); rintro e w' ⟨rfl, ⟨nd, rfl⟩⟩; refine ⟨_, rfl, ?_⟩; (try (rw [drewN_self w0]; generalize hq_ : World.drewN w0 _ = w0; replace P0 : Aside0 (Kd.R (Kd.int .i64) 3 w0 w.heap.size (fun k_ => some k_ ≠ (.slice a2 t1.length o2 : Value).ownBlock) (.slice a0 t0.length o0) t0) := ⟨by rw [← hq_]; exact (by (with_reducible repeat (first | apply Kd.R_alloc | apply Kd.R_drewN | apply Kd.R_drew)); exact Kd.R_mono P0.out (fun _ hk => hk.2))⟩; replace P1 : Aside0 (Kd.R (Kd.int .i64) 3 w0 w.heap.size (fun k_ => some k_ ≠ (.slice a0 t0.length o0 : Value).ownBlock) (.slice a2 t1.length o2) t1) := ⟨by rw [← hq_]; exact (by (with_reducible repeat (first | apply Kd.R_alloc | apply Kd.R_drewN | apply Kd.R_drew)); exact Kd.R_mono P1.out (fun _ hk => hk.2))⟩; replace B0 : Aside0 (w0.heap[g0]? = some (.cells #[.int .i64 0, .int .i64 0] 27 (0, 0))) := ⟨by rw [← hq_]; exact (hK_ B0.out)⟩; replace HB : Aside0 (Below w.heap.size w w0) := ⟨by rw [← hq_]; exact hC_⟩; clear hq_; (try have hcu0_0 := bc0_ B0.out); (try have hfu0_0 := blk_frozen B0.out 0); (try have hcu0_1 := bc1_ B0.out); (try have hfu0_1 := blk_frozen B0.out 1))); obtain ⟨z2, z3, f2, f3⟩ := bx2_ B0.out))
    refine bodyPost_ret (results_cell_row rfl _ _ g0 27 #[.int .i64 0, .int .i64 t3] (0, 0) _ rfl (bP_ (bP_ (hK_ B0.out))) Tryd.underlying27 rfl (by kernel_rfl)) rfl ?_
    exact ⟨hV_, hC_⟩
   rw [if_neg c11] at H
   have c11b0 : decide (0 ≤ t3) = false := decide_eq_false c11
   clear c11
   replace H := Option.bind_eq_some_iff.mp H
   obtain ⟨⟨t6, t7⟩, A170, H⟩ := H
   try dsimp only at H
   have A17 := a_ A170
   clear A170
   simp only [Option.some.injEq, Prod.mk.injEq] at H
   obtain ⟨rfl, rfl⟩ := H
   go_wp2_with (first | ((with_reducible refine gate_callee (f := 28) rfl ?_); refine goesL_ (some 19) rfl rfl Tryd.func28 (by kernel_rfl) rfl #[.slice A0 l0.length c0, .int .i64 x0] rfl hL_ ?_; (with_reducible refine (sleuthref12_kids.calls k1 _ _ l0 x0 t0 _ ?s1 ?s2 A6.out).mono ?_); (case s1 => exact cB_ HR0.out); (case s2 => exact HC0.out); rintro e w3 ⟨v0, rfl, ho0, hb⟩; refine ⟨_, rfl, ?_⟩; have P0 := a_ (Kd.R_lower ho0 (below_size hC_)); replace B0 := a_ (bB_ B0.out hb); replace HB := a_ (below_step hC_ hb); (try clear hb); (try clear hb2); (try clear hk); (try clear hi); (try clear ho0); obtain ⟨a1, o1, e3⟩ := Kd.R_slice P0.out; subst e3) | ((with_reducible refine gate_callee (f := 29) rfl ?_); refine goesL_ _ rfl rfl Tryd.func29 (by kernel_rfl) rfl #[.slice a1 t0.length o1, .slice (some d0) l1.length c1, .int .i64 2] rfl hL_ ?_; (with_reducible refine (sleuthref12_firstOf.calls k1 _ _ t0 _ _ l1 2 t2 _ ?s1 ?s2 ?s3 ?s4 A7.out).mono ?_); (case s1 => exact cC_ (Kd.R_reads' P0.out).2.2); (case s2 => exact (Kd.R_reads' P0.out).2.1); (case s3 => exact cB_ HR1.out); (case s4 => exact HC1.out); rintro e w' ⟨rfl, ⟨nd, rfl⟩⟩; refine ⟨_, rfl, ?_⟩; (try (rw [drewN_self w3]; generalize hq_ : World.drewN w3 _ = w3; replace P0 : Aside0 (Kd.R (Kd.int .i64) 3 w3 w.heap.size (fun _ => True) (.slice a1 t0.length o1) t0) := ⟨by rw [← hq_]; exact (hR_ P0.out)⟩; replace B0 : Aside0 (w3.heap[g0]? = some (.cells #[.int .i64 0, .int .i64 0] 27 (0, 0))) := ⟨by rw [← hq_]; exact (hK_ B0.out)⟩; replace HB : Aside0 (Below w.heap.size w w3) := ⟨by rw [← hq_]; exact hC_⟩; clear hq_; (try have hcu0_0 := bc0_ B0.out); (try have hfu0_0 := blk_frozen B0.out 0); (try have hcu0_1 := bc1_ B0.out); (try have hfu0_1 := blk_frozen B0.out 1)))) | ((with_reducible refine gate_callee (f := 28) rfl ?_); refine goesL_ (some 28) rfl rfl Tryd.func28 (by kernel_rfl) rfl #[.slice A0 l0.length c0, .int .i64 x0] rfl hL_ ?_; (with_reducible refine (sleuthref12_kids.calls k1 _ _ l0 x0 t1 _ ?s1 ?s2 A9.out).mono ?_); (case s1 => exact cB_ HR0.out); (case s2 => exact HC0.out); rintro e w1 ⟨v1, rfl, ho0, hb⟩; refine ⟨_, rfl, ?_⟩; have P1 := a_ (Kd.R_lower (Kd.R_new' ho0 (Kd.R_lt (hR_ P0.out))) (below_size hC_)); replace P0 := a_ (Kd.R_elder' (hR_ P0.out) (Kd.R_base ho0) hb); replace B0 := a_ (bB_ B0.out hb); replace HB := a_ (below_step hC_ hb); (try clear hb); (try clear hb2); (try clear hk); (try clear hi); (try clear ho0); obtain ⟨a3, o3, e4⟩ := Kd.R_slice P1.out; subst e4) | ((with_reducible refine gate_callee (f := 29) rfl ?_); refine goesL_ _ rfl rfl Tryd.func29 (by kernel_rfl) rfl #[.slice a3 t1.length o3, .slice (some d0) l1.length c1, .int .i64 0] rfl hL_ ?_; (with_reducible refine (sleuthref12_firstOf.calls k1 _ _ t1 _ _ l1 0 t3 _ ?s1 ?s2 ?s3 ?s4 A10.out).mono ?_); (case s1 => exact cC_ (Kd.R_reads' P1.out).2.2); (case s2 => exact (Kd.R_reads' P1.out).2.1); (case s3 => exact cB_ HR1.out); (case s4 => exact HC1.out); rintro e w' ⟨rfl, ⟨nd, rfl⟩⟩; refine ⟨_, rfl, ?_⟩; (try (rw [drewN_self w1]; generalize hq_ : World.drewN w1 _ = w1; replace P0 : Aside0 (Kd.R (Kd.int .i64) 3 w1 w.heap.size (fun k_ => some k_ ≠ (.slice a3 t1.length o3 : Value).ownBlock) (.slice a1 t0.length o1) t0) := ⟨by rw [← hq_]; exact (by (with_reducible repeat (first | apply Kd.R_alloc | apply Kd.R_drewN | apply Kd.R_drew)); exact Kd.R_mono P0.out (fun _ hk => hk.2))⟩; replace P1 : Aside0 (Kd.R (Kd.int .i64) 3 w1 w.heap.size (fun k_ => some k_ ≠ (.slice a1 t0.length o1 : Value).ownBlock) (.slice a3 t1.length o3) t1) := ⟨by rw [← hq_]; exact (by (with_reducible repeat (first | apply Kd.R_alloc | apply Kd.R_drewN | apply Kd.R_drew)); exact Kd.R_mono P1.out (fun _ hk => hk.2))⟩; replace B0 : Aside0 (w1.heap[g0]? = some (.cells #[.int .i64 0, .int .i64 0] 27 (0, 0))) := ⟨by rw [← hq_]; exact (hK_ B0.out)⟩; replace HB : Aside0 (Below w.heap.size w w1) := ⟨by rw [← hq_]; exact hC_⟩; clear hq_; (try have hcu0_0 := bc0_ B0.out); (try have hfu0_0 := blk_frozen B0.out 0); (try have hcu0_1 := bc1_ B0.out); (try have hfu0_1 := blk_frozen B0.out 1)))) | ((with_reducible refine gate_callee (f := 30) rfl ?_); refine goesL_ (some 38) rfl rfl Tryd.func30 (by kernel_rfl) rfl #[.slice A0 l0.length c0, .slice (some d0) l1.length c1, .int .i64 x0] rfl hL_ ?_; (with_reducible refine (sleuthref12_verdict.calls k1 _ _ l0 _ _ l1 x0 t6 t7 _ ?s1 ?s2 ?s3 ?s4 A17.out).mono ?_); (case s1 => exact cB_ HR0.out); (case s2 => exact HC0.out); (case s3 => exact cB_ HR1.out); (case s4 => exact HC1.out); rintro e w8 ⟨rfl, hb⟩; refine ⟨_, rfl, ?_⟩; replace P0 := a_ (Kd.R_below (hR_ P0.out) hb); replace P1 := a_ (Kd.R_below (hR_ P1.out) hb); replace B0 := a_ (bB_ B0.out hb); replace HB := a_ (below_step hC_ hb); (try clear hb); (try clear hb2); (try clear hk); (try clear hi); obtain ⟨z4, z5, f4, f5⟩ := bx2_ B0.out))
   refine bodyPost_ret (results_cell_row rfl _ _ g0 27 #[.int .i64 t6, .int .i64 t7] (0, 0) _ rfl (bP_ (bP_ (hK_ B0.out))) Tryd.underlying27 rfl (by kernel_rfl)) rfl ?_
   exact ⟨hV_, hC_⟩
def sleuthref12_Top.f (k : Nat) (l0 : List (S40)) (l1 : List Int) : Option (Int × Int × Int) := (sleuthref12_MarksMay.f k l0 l1).bind fun t317 => (if t317 = true then ((sleuthref12_topDown.f k l0 l1).bind fun bt318 => (some (bt318.1, bt318.2, 0))) else (some (0, 0, 1800)))
theorem sleuthref12_Top.calls (k : Nat) (A0 : Option Addr) (c0 : Nat) (l0 : List (S40)) (A1 : Option Addr) (c1 : Nat) (l1 : List Int) (r1 : Int) (r2 : Int) (r3 : Int) (w : World) (hr0 : Kd.C k40 w A0 l0.length l0) (hc0 : l0.length ≤ c0) (hr1 : Kd.C (Kd.int .i64) w A1 l1.length l1) (hc1 : l1.length ≤ c1) (h : sleuthref12_Top.f k l0 l1 = some (r1, r2, r3)) :
 Calls Tryd.prog 7 #[.slice A0 l0.length c0, .slice A1 l1.length c1] w fun e w' => e = .returned (.tuple #[.agg #[.int .i64 r1, .int .i64 r2], .int .i64 r3]) ∧ Below w.heap.size w w' := by
 have hu27 := Tryd.underlying27
 have HR0 := a_ hr0
 have HC0 := a_ hc0
 clear hr0 hc0
 have HR1 := a_ hr1
 have HC1 := a_ hc1
 clear hr1 hc1
 have HB := a_ (Below.refl w.heap.size w)
 have H := h; unfold sleuthref12_Top.f at H
 clear h
 replace H := Option.bind_eq_some_iff.mp H
 obtain ⟨t2, A30, H⟩ := H
 try dsimp only at H
 have A3 := a_ A30
 clear A30
 by_cases c4 : t2 = true
 case neg =>
  replace c4 := Bool.eq_false_iff.mpr c4
  subst c4
  rw [if_neg (show ¬ (false = true) by decide)] at H
  simp only [Option.some.injEq, Prod.mk.injEq] at H
  obtain ⟨rfl, rfl, rfl⟩ := H
  go_enter Tryd.func7, Tryd.ntmps7
  go_wp2_with (first | ((with_reducible refine gate_dst (N := 4) rfl ?_); refine boxE_ 4 #[.int .i64 0, .int .i64 0] 27 ?_; intro g0 hg w0 hbox hb; have B0 := a_ (hbox); have E0 := a_ ((gE_ hg : w.heap.size ≤ g0)); replace HB := a_ (below_step hB_ hb); clear hb hbox hg) | ((with_reducible refine gate_callee (f := 15) rfl ?_); refine goesL_ (some 8) rfl rfl Tryd.func15 (by kernel_rfl) rfl #[.slice A0 l0.length c0, .slice A1 l1.length c1] rfl hL_ ?_; (with_reducible refine (sleuthref12_MarksMay.calls k _ _ l0 _ _ l1 false _ ?s1 ?s2 ?s3 ?s4 A3.out).mono ?_); (case s1 => exact cB_ HR0.out); (case s2 => exact HC0.out); (case s3 => exact cB_ HR1.out); (case s4 => exact HC1.out); rintro e w1 ⟨rfl, hb⟩; refine ⟨_, rfl, ?_⟩; replace B0 := a_ (bB_ B0.out hb); replace HB := a_ (below_step hC_ hb); (try clear hb); (try clear hb2); (try clear hk); (try clear hi); obtain ⟨z0, z1, f0, f1⟩ := bx2_ B0.out))
  refine bodyPost_ret (results_ct rfl _ _ g0 27 #[.int .i64 0, .int .i64 0] (0, 0) _ rfl (bP_ (bP_ (hK_ B0.out))) Tryd.underlying27 rfl (by kernel_rfl)) rfl ?_
  exact ⟨hV_, hC_⟩

 subst c4
 rw [if_pos rfl] at H
 replace H := Option.bind_eq_some_iff.mp H
 obtain ⟨⟨t0, t1⟩, A50, H⟩ := H
 try dsimp only at H
 have A5 := a_ A50
 clear A50
 simp only [Option.some.injEq, Prod.mk.injEq] at H
 obtain ⟨rfl, rfl, rfl⟩ := H
 go_enter Tryd.func7, Tryd.ntmps7
 go_wp2_with (first | ((with_reducible refine gate_dst (N := 4) rfl ?_); refine boxE_ 4 #[.int .i64 0, .int .i64 0] 27 ?_; intro g0 hg w6 hbox hb; have B0 := a_ (hbox); have E0 := a_ ((gE_ hg : w.heap.size ≤ g0)); replace HB := a_ (below_step hB_ hb); clear hb hbox hg) | ((with_reducible refine gate_callee (f := 15) rfl ?_); refine goesL_ (some 8) rfl rfl Tryd.func15 (by kernel_rfl) rfl #[.slice A0 l0.length c0, .slice A1 l1.length c1] rfl hL_ ?_; (with_reducible refine (sleuthref12_MarksMay.calls k _ _ l0 _ _ l1 true _ ?s1 ?s2 ?s3 ?s4 A3.out).mono ?_); (case s1 => exact cB_ HR0.out); (case s2 => exact HC0.out); (case s3 => exact cB_ HR1.out); (case s4 => exact HC1.out); rintro e w7 ⟨rfl, hb⟩; refine ⟨_, rfl, ?_⟩; replace B0 := a_ (bB_ B0.out hb); replace HB := a_ (below_step hC_ hb); (try clear hb); (try clear hb2); (try clear hk); (try clear hi)) | ((with_reducible refine gate_callee (f := 16) rfl ?_); refine goesL_ (some 13) rfl rfl Tryd.func16 (by kernel_rfl) rfl #[.slice A0 l0.length c0, .slice A1 l1.length c1] rfl hL_ ?_; (with_reducible refine (sleuthref12_topDown.calls k _ _ l0 _ _ l1 t0 t1 _ ?s1 ?s2 ?s3 ?s4 A5.out).mono ?_); (case s1 => exact cB_ HR0.out); (case s2 => exact HC0.out); (case s3 => exact cB_ HR1.out); (case s4 => exact HC1.out); rintro e w8 ⟨rfl, hb⟩; refine ⟨_, rfl, ?_⟩; replace B0 := a_ (bB_ B0.out hb); replace HB := a_ (below_step hC_ hb); (try clear hb); (try clear hb2); (try clear hk); (try clear hi); obtain ⟨z2, z3, f2, f3⟩ := bx2_ B0.out))
 refine bodyPost_ret (results_ct rfl _ _ g0 27 #[.int .i64 t0, .int .i64 t1] (0, 0) _ rfl (bP_ (bP_ (hK_ B0.out))) Tryd.underlying27 rfl (by kernel_rfl)) rfl ?_
 exact ⟨hV_, hC_⟩
def sleuthlaw0_Num.f (a0 : Int) : Option (Int) := some a0
theorem sleuthlaw0_Num.calls (a0 : Int) (r : Int) (w : World) (h : sleuthlaw0_Num.f a0 = some r) :
 Calls Tryd.prog 8 #[.int .i64 a0] w fun e w' => e = .returned (.int .i64 r) ∧ Drawn0 w w' := by
 have H : (some a0) = some r := h
 clear h
 obtain rfl := Option.some.inj H
 go_enter Tryd.func8, Tryd.ntmps8
 go_wp2
 go_ret
 exact ⟨by first | rfl | (simp; done) | (simp [*]; done), by repeat (first | exact Drawn0.refl _ | apply Drawn0.step)⟩

set_option maxHeartbeats 8000000
set_option maxRecDepth 100000
attribute [local go_sem] max2_int min2_int max_two min_two max_three min_three max_four min_four   -- for this text's walks alone
set_option linter.unusedVariables false
set_option linter.unusedSimpArgs false

def sleuthlaw0_SameInts.l0 : Nat → List Int → List Int → Int → Option (Bool)
 | 0, _, _, _ => none
 | k + 1, x0, x1, x5 => if x5 < (x0.length : Int) then (if 0 ≤ x5 then (if x5 < (x1.length : Int) then (if (rd x0 x5) = (rd x1 x5) then (sleuthlaw0_SameInts.l0 k x0 x1 (wrap64 (x5 + 1))) else (some false)) else (none)) else (none)) else (some true)
def sleuthlaw0_SameInts.f (k : Nat) (l0 : List Int) (l1 : List Int) : Option (Bool) := if (l0.length : Int) = (l1.length : Int) then (sleuthlaw0_SameInts.l0 k l0 l1 0) else (some false)
theorem sleuthlaw0_SameInts.calls (k : Nat) (A0 : Option Addr) (c0 : Nat) (l0 : List Int) (A1 : Option Addr) (c1 : Nat) (l1 : List Int) (r : Bool) (w : World) (hr0 : Kd.C (Kd.int .i64) w A0 l0.length l0) (hc0 : l0.length ≤ c0) (hr1 : Kd.C (Kd.int .i64) w A1 l1.length l1) (hc1 : l1.length ≤ c1) (h : sleuthlaw0_SameInts.f k l0 l1 = some r) :
 Calls Tryd.prog 18 #[.slice A0 l0.length c0, .slice A1 l1.length c1] w fun e w' => e = .returned (.bool r) ∧ Drawn0 w w' := by
 have HR0 := a_ hr0
 have HC0 := a_ hc0
 clear hr0 hc0
 have HR1 := a_ hr1
 have HC1 := a_ hc1
 clear hr1 hc1
 have H := h; unfold sleuthlaw0_SameInts.f at H
 clear h
 by_cases c3 : (l0.length : Int) = (l1.length : Int)
 case neg =>
  rw [if_neg c3] at H
  have c3b0 : ((l0.length : Int) == (l1.length : Int)) = false := beq_eq_false_iff_ne.mpr c3
  have c3b1 : ((l0.length : Int) != (l1.length : Int)) = true := bne_iff_ne.mpr c3
  have c3b2 : (l0.length == l1.length) = false := by first | simpa using c3 | (simp at c3 ⊢; omega)
  obtain rfl := Option.some.inj H
  go_enter Tryd.func18, Tryd.ntmps18
  go_wp2
  repeat (go_quiet (fail); try go_wp2)
  go_ret
  exact ⟨by first | rfl | (simp; done) | (simp [*]; done), by repeat (first | exact Drawn0.refl _ | apply Drawn0.step)⟩

 rw [if_pos c3] at H
 have c3b0 : ((l0.length : Int) == (l1.length : Int)) = true := beq_iff_eq.mpr c3
 have c3b1 : ((l0.length : Int) != (l1.length : Int)) = false := bne_eq_false_iff_eq.mpr c3
 have c3b2 : (l0.length == l1.length) = true := by first | simpa using c3 | (simp at c3 ⊢; omega)
 clear c3
 have H' := a_ H
 clear H
 go_enter Tryd.func18, Tryd.ntmps18
 go_wp2
 repeat (go_quiet (fail); try go_wp2)
 go_loopg [5] k (fun kq v5 w' => ∃ (x0 : Int), v5 = .int .i64 x0 ∧ Aside0 (sleuthlaw0_SameInts.l0 kq l0 l1 x0 = some r) ∧ Aside0 (kq ≤ k) ∧ Drawn0 w w')
 case atStart => exact ⟨(0), hW_, H', ⟨Nat.le_refl _⟩, by repeat (first | exact Drawn0.refl _ | apply Drawn0.step)⟩
 case round =>
  clear H'
  try clear c1
  try clear p2
  try clear c3
  try clear c3b0
  try clear c3b1
  try clear c3b2
  obtain ⟨x0, rfl, HA, HK1, ⟨m1, rfl⟩⟩ := hrel
  cases gk with
  | zero => exact absurd HA.out (by simp [sleuthlaw0_SameInts.l0])
  | succ k1 =>
   have H := HA.out
   clear HA
   simp only [sleuthlaw0_SameInts.l0] at H
   by_cases c4 : x0 < (l0.length : Int)
   case neg =>
    rw [if_neg c4] at H
    have c4b0 : decide (x0 < (l0.length : Int)) = false := decide_eq_false c4
    clear c4
    obtain rfl := Option.some.inj H
    go_wp2
    repeat (go_quiet (fail); try go_wp2)
    go_ret
    exact ⟨by first | rfl | (simp; done) | (simp [*]; done), by repeat (first | exact Drawn0.refl _ | apply Drawn0.step)⟩
   rw [if_pos c4] at H
   have c4b0 : decide (x0 < (l0.length : Int)) = true := decide_eq_true c4
   clear c4
   replace H := ifI_ H; obtain ⟨c5, H⟩ := H
   have c5b0 : decide (0 ≤ x0) = true := decide_eq_true c5
   clear c5
   replace H := ifI_ H; obtain ⟨c6, H⟩ := H
   have c6b0 : decide (x0 < (l1.length : Int)) = true := decide_eq_true c6
   clear c6
   by_cases c7 : (rd l0 x0) = (rd l1 x0)
   case neg =>
    rw [if_neg c7] at H
    have c7b0 : ((rd l0 x0) == (rd l1 x0)) = false := beq_eq_false_iff_ne.mpr c7
    have c7b1 : ((rd l0 x0) != (rd l1 x0)) = true := bne_iff_ne.mpr c7
    obtain rfl := Option.some.inj H
    have p118 : 0 ≤ (x0 : Int) := of_decide_eq_true hA_
    have q118 : x0 < (l0.length : Int) := of_decide_eq_true hA_
    obtain ⟨d0, e118, h0⟩ := Kd.at_int HR0.out x0 p118 q118
    cases e118
    replace p118 := eq_true p118
    replace q118 := eq_true q118
    have p119 : 0 ≤ (x0 : Int) := of_decide_eq_true hA_
    have q119 : x0 < (l1.length : Int) := of_decide_eq_true hA_
    obtain ⟨d1, e119, h1⟩ := Kd.at_int HR1.out x0 p119 q119
    cases e119
    replace p119 := eq_true p119
    replace q119 := eq_true q119
    go_wp2
    repeat (go_quiet (fail); try go_wp2)
    go_ret
    exact ⟨by first | rfl | (simp; done) | (simp [*]; done), by repeat (first | exact Drawn0.refl _ | apply Drawn0.step)⟩
   rw [if_pos c7] at H
   have c7b0 : ((rd l0 x0) == (rd l1 x0)) = true := beq_iff_eq.mpr c7
   have c7b1 : ((rd l0 x0) != (rd l1 x0)) = false := bne_eq_false_iff_eq.mpr c7
   clear c7
   have H' := a_ H
   clear H
   have p118 : 0 ≤ (x0 : Int) := of_decide_eq_true hA_
   have q118 : x0 < (l0.length : Int) := of_decide_eq_true hA_
   obtain ⟨d0, e118, h0⟩ := Kd.at_int HR0.out x0 p118 q118
   cases e118
   replace p118 := eq_true p118
   replace q118 := eq_true q118
   have p119 : 0 ≤ (x0 : Int) := of_decide_eq_true hA_
   have q119 : x0 < (l1.length : Int) := of_decide_eq_true hA_
   obtain ⟨d1, e119, h1⟩ := Kd.at_int HR1.out x0 p119 q119
   cases e119
   replace p119 := eq_true p119
   replace q119 := eq_true q119
   go_wp2
   repeat (go_quiet (fail); try go_wp2)
   go_roundg k1
   case measure => have := HK1.out; omega
   case rel => exact ⟨(wrap64 (x0 + 1)), hW_, H', ⟨by have := HK1.out; omega⟩, by repeat (first | exact Drawn0.refl _ | apply Drawn0.step)⟩
set_option maxHeartbeats 8000000
set_option maxRecDepth 100000
attribute [local go_sem] max2_int min2_int max_two min_two max_three min_three max_four min_four   -- for this text's walks alone
set_option linter.unusedVariables false
set_option linter.unusedSimpArgs false

def sleuthlaw0_SameTexts.l0 : Nat → List ByteArray → List ByteArray → Int → Option (Bool)
 | 0, _, _, _ => none
 | k + 1, x0, x1, x5 => if x5 < (x0.length : Int) then (if 0 ≤ x5 then (if x5 < (x1.length : Int) then (if (rdOf ByteArray.empty x0 x5).toList = (rdOf ByteArray.empty x1 x5).toList then (sleuthlaw0_SameTexts.l0 k x0 x1 (wrap64 (x5 + 1))) else (some false)) else (none)) else (none)) else (some true)
def sleuthlaw0_SameTexts.f (k : Nat) (l0 : List ByteArray) (l1 : List ByteArray) : Option (Bool) := if (l0.length : Int) = (l1.length : Int) then (sleuthlaw0_SameTexts.l0 k l0 l1 0) else (some false)
theorem sleuthlaw0_SameTexts.calls (k : Nat) (A0 : Option Addr) (c0 : Nat) (l0 : List ByteArray) (A1 : Option Addr) (c1 : Nat) (l1 : List ByteArray) (r : Bool) (w : World) (hr0 : Kd.C Kd.string w A0 l0.length l0) (hc0 : l0.length ≤ c0) (hr1 : Kd.C Kd.string w A1 l1.length l1) (hc1 : l1.length ≤ c1) (h : sleuthlaw0_SameTexts.f k l0 l1 = some r) :
 Calls Tryd.prog 31 #[.slice A0 l0.length c0, .slice A1 l1.length c1] w fun e w' => e = .returned (.bool r) ∧ Drawn0 w w' := by
 have HR0 := a_ hr0
 have HC0 := a_ hc0
 clear hr0 hc0
 have HR1 := a_ hr1
 have HC1 := a_ hc1
 clear hr1 hc1
 have H := h; unfold sleuthlaw0_SameTexts.f at H
 clear h
 by_cases c3 : (l0.length : Int) = (l1.length : Int)
 case neg =>
  rw [if_neg c3] at H
  have c3b0 : ((l0.length : Int) == (l1.length : Int)) = false := beq_eq_false_iff_ne.mpr c3
  have c3b1 : ((l0.length : Int) != (l1.length : Int)) = true := bne_iff_ne.mpr c3
  have c3b2 : (l0.length == l1.length) = false := by first | simpa using c3 | (simp at c3 ⊢; omega)
  obtain rfl := Option.some.inj H
  go_enter Tryd.func31, Tryd.ntmps31
  go_wp2
  repeat (go_quiet (fail); try go_wp2)
  go_ret
  exact ⟨by first | rfl | (simp; done) | (simp [*]; done), by repeat (first | exact Drawn0.refl _ | apply Drawn0.step)⟩

 rw [if_pos c3] at H
 have c3b0 : ((l0.length : Int) == (l1.length : Int)) = true := beq_iff_eq.mpr c3
 have c3b1 : ((l0.length : Int) != (l1.length : Int)) = false := bne_eq_false_iff_eq.mpr c3
 have c3b2 : (l0.length == l1.length) = true := by first | simpa using c3 | (simp at c3 ⊢; omega)
 clear c3
 have H' := a_ H
 clear H
 go_enter Tryd.func31, Tryd.ntmps31
 go_wp2
 repeat (go_quiet (fail); try go_wp2)
 go_loopg [5] k (fun kq v5 w' => ∃ (x0 : Int), v5 = .int .i64 x0 ∧ Aside0 (sleuthlaw0_SameTexts.l0 kq l0 l1 x0 = some r) ∧ Aside0 (kq ≤ k) ∧ Drawn0 w w')
 case atStart => exact ⟨(0), hW_, H', ⟨Nat.le_refl _⟩, by repeat (first | exact Drawn0.refl _ | apply Drawn0.step)⟩
 case round =>
  clear H'
  try clear c1
  try clear p2
  try clear c3
  try clear c3b0
  try clear c3b1
  try clear c3b2
  obtain ⟨x0, rfl, HA, HK1, ⟨m1, rfl⟩⟩ := hrel
  cases gk with
  | zero => exact absurd HA.out (by simp [sleuthlaw0_SameTexts.l0])
  | succ k1 =>
   have H := HA.out
   clear HA
   simp only [sleuthlaw0_SameTexts.l0] at H
   by_cases c4 : x0 < (l0.length : Int)
   case neg =>
    rw [if_neg c4] at H
    have c4b0 : decide (x0 < (l0.length : Int)) = false := decide_eq_false c4
    clear c4
    obtain rfl := Option.some.inj H
    go_wp2
    repeat (go_quiet (fail); try go_wp2)
    go_ret
    exact ⟨by first | rfl | (simp; done) | (simp [*]; done), by repeat (first | exact Drawn0.refl _ | apply Drawn0.step)⟩
   rw [if_pos c4] at H
   have c4b0 : decide (x0 < (l0.length : Int)) = true := decide_eq_true c4
   clear c4
   replace H := ifI_ H; obtain ⟨c5, H⟩ := H
   have c5b0 : decide (0 ≤ x0) = true := decide_eq_true c5
   clear c5
   replace H := ifI_ H; obtain ⟨c6, H⟩ := H
   have c6b0 : decide (x0 < (l1.length : Int)) = true := decide_eq_true c6
   clear c6
   by_cases c7 : (rdOf ByteArray.empty l0 x0).toList = (rdOf ByteArray.empty l1 x0).toList
   case neg =>
    rw [if_neg c7] at H
    have c7b0 : ((rdOf ByteArray.empty l0 x0).toList == (rdOf ByteArray.empty l1 x0).toList) = false := beq_eq_false_iff_ne.mpr c7
    have c7b1 : ((rdOf ByteArray.empty l0 x0).toList != (rdOf ByteArray.empty l1 x0).toList) = true := bne_iff_ne.mpr c7
    obtain rfl := Option.some.inj H
    have p320 : 0 ≤ (x0 : Int) := of_decide_eq_true hA_
    have q320 : x0 < (l0.length : Int) := of_decide_eq_true hA_
    obtain ⟨d0, e320, h0⟩ := Kd.at_string HR0.out x0 p320 q320
    cases e320
    replace p320 := eq_true p320
    replace q320 := eq_true q320
    have p321 : 0 ≤ (x0 : Int) := of_decide_eq_true hA_
    have q321 : x0 < (l1.length : Int) := of_decide_eq_true hA_
    obtain ⟨d1, e321, h1⟩ := Kd.at_string HR1.out x0 p321 q321
    cases e321
    replace p321 := eq_true p321
    replace q321 := eq_true q321
    go_wp2
    repeat (go_quiet (fail); try go_wp2)
    go_ret
    exact ⟨by first | rfl | (simp; done) | (simp [*]; done), by repeat (first | exact Drawn0.refl _ | apply Drawn0.step)⟩
   rw [if_pos c7] at H
   have c7b0 : ((rdOf ByteArray.empty l0 x0).toList == (rdOf ByteArray.empty l1 x0).toList) = true := beq_iff_eq.mpr c7
   have c7b1 : ((rdOf ByteArray.empty l0 x0).toList != (rdOf ByteArray.empty l1 x0).toList) = false := bne_eq_false_iff_eq.mpr c7
   clear c7
   have H' := a_ H
   clear H
   have p320 : 0 ≤ (x0 : Int) := of_decide_eq_true hA_
   have q320 : x0 < (l0.length : Int) := of_decide_eq_true hA_
   obtain ⟨d0, e320, h0⟩ := Kd.at_string HR0.out x0 p320 q320
   cases e320
   replace p320 := eq_true p320
   replace q320 := eq_true q320
   have p321 : 0 ≤ (x0 : Int) := of_decide_eq_true hA_
   have q321 : x0 < (l1.length : Int) := of_decide_eq_true hA_
   obtain ⟨d1, e321, h1⟩ := Kd.at_string HR1.out x0 p321 q321
   cases e321
   replace p321 := eq_true p321
   replace q321 := eq_true q321
   go_wp2
   repeat (go_quiet (fail); try go_wp2)
   go_roundg k1
   case measure => have := HK1.out; omega
   case rel => exact ⟨(wrap64 (x0 + 1)), hW_, H', ⟨by have := HK1.out; omega⟩, by repeat (first | exact Drawn0.refl _ | apply Drawn0.step)⟩
def sleuthlaw0_SameNode.f (k : Nat) (a0_0 : Int) (a0_1 : Int) (l0_2 : List ByteArray) (a0_3 : ByteArray) (a1_0 : Int) (a1_1 : Int) (l1_2 : List ByteArray) (a1_3 : ByteArray) : Option (Bool) := if a0_0 = a1_0 then (if a0_1 = a1_1 then ((sleuthlaw0_SameTexts.f k l0_2 l1_2).bind fun t324 => (if t324 = true then (some (a0_3.toList == a1_3.toList)) else (some false))) else (some false)) else (some false)
theorem sleuthlaw0_SameNode.calls (k : Nat) (a0_0 : Int) (a0_1 : Int) (A0_2 : Option Addr) (c0_2 : Nat) (l0_2 : List ByteArray) (a0_3 : ByteArray) (a1_0 : Int) (a1_1 : Int) (A1_2 : Option Addr) (c1_2 : Nat) (l1_2 : List ByteArray) (a1_3 : ByteArray) (r : Bool) (w : World) (hr0_2 : Kd.C Kd.string w A0_2 l0_2.length l0_2) (hc0_2 : l0_2.length ≤ c0_2) (hr1_2 : Kd.C Kd.string w A1_2 l1_2.length l1_2) (hc1_2 : l1_2.length ≤ c1_2) (h : sleuthlaw0_SameNode.f k a0_0 a0_1 l0_2 a0_3 a1_0 a1_1 l1_2 a1_3 = some r) :
 Calls Tryd.prog 17 #[.agg #[.int .i64 a0_0, .int .i64 a0_1, .slice A0_2 l0_2.length c0_2, .string a0_3], .agg #[.int .i64 a1_0, .int .i64 a1_1, .slice A1_2 l1_2.length c1_2, .string a1_3]] w fun e w' => e = .returned (.bool r) ∧ Below w.heap.size w w' := by
 have hu40 := Tryd.underlying40
 have HR0_2 := a_ hr0_2
 have HC0_2 := a_ hc0_2
 clear hr0_2 hc0_2
 have HR1_2 := a_ hr1_2
 have HC1_2 := a_ hc1_2
 clear hr1_2 hc1_2
 have HB := a_ (Below.refl w.heap.size w)
 have H := h; unfold sleuthlaw0_SameNode.f at H
 clear h
 by_cases c3 : a0_0 = a1_0
 case neg =>
  rw [if_neg c3] at H
  have c3b0 : (a0_0 == a1_0) = false := beq_eq_false_iff_ne.mpr c3
  have c3b1 : (a0_0 != a1_0) = true := bne_iff_ne.mpr c3
  obtain rfl := Option.some.inj H
  go_enter Tryd.func17, Tryd.ntmps17
  go_wp2_with (first | ((with_reducible refine gate_dst (N := 2) rfl ?_); refine boxE_ 2 #[.int .i64 a0_0, .int .i64 a0_1, .slice A0_2 l0_2.length c0_2, .string a0_3] 40 ?_; intro g0 hg w0 hbox hb; have B0 := a_ (hbox); have E0 := a_ ((gE_ hg : w.heap.size ≤ g0)); replace HB := a_ (below_step hB_ hb); clear hb hbox hg) | ((with_reducible refine gate_dst (N := 3) rfl ?_); refine boxE_ 3 #[.int .i64 a1_0, .int .i64 a1_1, .slice A1_2 l1_2.length c1_2, .string a1_3] 40 ?_; intro g1 hg w1 hbox hb; have B1 := a_ (hbox); have E1 := a_ ((gE_ hg : w.heap.size ≤ g1)); replace HB := a_ (below_step hC_ hb); have N0 := a_ ((bL_ B0.out hg : g0 ≠ g1)); have N1 := a_ ((bG_ B0.out hg : g1 ≠ g0)); replace B0 := a_ (bB_ B0.out hb); clear hb hbox hg; have m0 := N0.out; have n0 := N1.out; obtain ⟨z0, z1, z2, z3, f0, f1, f2, f3⟩ := bx4_ B0.out; obtain ⟨z4, z5, z6, z7, f4, f5, f6, f7⟩ := bx4_ B1.out))
  go_ret
  exact ⟨hV_, hC_⟩

 rw [if_pos c3] at H
 have c3b0 : (a0_0 == a1_0) = true := beq_iff_eq.mpr c3
 have c3b1 : (a0_0 != a1_0) = false := bne_eq_false_iff_eq.mpr c3
 clear c3
 by_cases c4 : a0_1 = a1_1
 case neg =>
  rw [if_neg c4] at H
  have c4b0 : (a0_1 == a1_1) = false := beq_eq_false_iff_ne.mpr c4
  have c4b1 : (a0_1 != a1_1) = true := bne_iff_ne.mpr c4
  obtain rfl := Option.some.inj H
  go_enter Tryd.func17, Tryd.ntmps17
  go_wp2_with (first | ((with_reducible refine gate_dst (N := 2) rfl ?_); refine boxE_ 2 #[.int .i64 a0_0, .int .i64 a0_1, .slice A0_2 l0_2.length c0_2, .string a0_3] 40 ?_; intro g0 hg w2 hbox hb; have B0 := a_ (hbox); have E0 := a_ ((gE_ hg : w.heap.size ≤ g0)); replace HB := a_ (below_step hB_ hb); clear hb hbox hg) | ((with_reducible refine gate_dst (N := 3) rfl ?_); refine boxE_ 3 #[.int .i64 a1_0, .int .i64 a1_1, .slice A1_2 l1_2.length c1_2, .string a1_3] 40 ?_; intro g1 hg w3 hbox hb; have B1 := a_ (hbox); have E1 := a_ ((gE_ hg : w.heap.size ≤ g1)); replace HB := a_ (below_step hC_ hb); have N0 := a_ ((bL_ B0.out hg : g0 ≠ g1)); have N1 := a_ ((bG_ B0.out hg : g1 ≠ g0)); replace B0 := a_ (bB_ B0.out hb); clear hb hbox hg; have m1 := N0.out; have n1 := N1.out; obtain ⟨z8, z9, z10, z11, f8, f9, f10, f11⟩ := bx4_ B0.out; obtain ⟨z12, z13, z14, z15, f12, f13, f14, f15⟩ := bx4_ B1.out))
  go_ret
  exact ⟨hV_, hC_⟩
 rw [if_pos c4] at H
 have c4b0 : (a0_1 == a1_1) = true := beq_iff_eq.mpr c4
 have c4b1 : (a0_1 != a1_1) = false := bne_eq_false_iff_eq.mpr c4
 clear c4
 replace H := Option.bind_eq_some_iff.mp H
 obtain ⟨t0, A50, H⟩ := H
 try dsimp only at H
 have A5 := a_ A50
 clear A50
 by_cases c6 : t0 = true
 case pos =>
  subst c6
  rw [if_pos rfl] at H
  obtain rfl := Option.some.inj H
  go_enter Tryd.func17, Tryd.ntmps17
  go_wp2_with (first | ((with_reducible refine gate_dst (N := 2) rfl ?_); refine boxE_ 2 #[.int .i64 a0_0, .int .i64 a0_1, .slice A0_2 l0_2.length c0_2, .string a0_3] 40 ?_; intro g0 hg w7 hbox hb; have B0 := a_ (hbox); have E0 := a_ ((gE_ hg : w.heap.size ≤ g0)); replace HB := a_ (below_step hB_ hb); clear hb hbox hg) | ((with_reducible refine gate_dst (N := 3) rfl ?_); refine boxE_ 3 #[.int .i64 a1_0, .int .i64 a1_1, .slice A1_2 l1_2.length c1_2, .string a1_3] 40 ?_; intro g1 hg w8 hbox hb; have B1 := a_ (hbox); have E1 := a_ ((gE_ hg : w.heap.size ≤ g1)); replace HB := a_ (below_step hC_ hb); have N0 := a_ ((bL_ B0.out hg : g0 ≠ g1)); have N1 := a_ ((bG_ B0.out hg : g1 ≠ g0)); replace B0 := a_ (bB_ B0.out hb); clear hb hbox hg; have m2 := N0.out; have n2 := N1.out; obtain ⟨z16, z17, z18, z19, f16, f17, f18, f19⟩ := bx4_ B0.out; obtain ⟨z20, z21, z22, z23, f20, f21, f22, f23⟩ := bx4_ B1.out) | (go_at_call 31; (with_reducible refine (sleuthlaw0_SameTexts.calls k _ _ l0_2 _ _ l1_2 true _ ?s1 ?s2 ?s3 ?s4 A5.out).mono ?_); (case s1 => exact cB_ HR0_2.out); (case s2 => exact HC0_2.out); (case s3 => exact cB_ HR1_2.out); (case s4 => exact HC1_2.out); rintro e w' ⟨rfl, ⟨nd, rfl⟩⟩))
  go_ret
  exact ⟨hV_, hC_⟩
 replace c6 := Bool.eq_false_iff.mpr c6
 subst c6
 rw [if_neg (show ¬ (false = true) by decide)] at H
 obtain rfl := Option.some.inj H
 go_enter Tryd.func17, Tryd.ntmps17
 go_wp2_with (first | ((with_reducible refine gate_dst (N := 2) rfl ?_); refine boxE_ 2 #[.int .i64 a0_0, .int .i64 a0_1, .slice A0_2 l0_2.length c0_2, .string a0_3] 40 ?_; intro g0 hg w4 hbox hb; have B0 := a_ (hbox); have E0 := a_ ((gE_ hg : w.heap.size ≤ g0)); replace HB := a_ (below_step hB_ hb); clear hb hbox hg) | ((with_reducible refine gate_dst (N := 3) rfl ?_); refine boxE_ 3 #[.int .i64 a1_0, .int .i64 a1_1, .slice A1_2 l1_2.length c1_2, .string a1_3] 40 ?_; intro g1 hg w5 hbox hb; have B1 := a_ (hbox); have E1 := a_ ((gE_ hg : w.heap.size ≤ g1)); replace HB := a_ (below_step hC_ hb); have N0 := a_ ((bL_ B0.out hg : g0 ≠ g1)); have N1 := a_ ((bG_ B0.out hg : g1 ≠ g0)); replace B0 := a_ (bB_ B0.out hb); clear hb hbox hg; have m3 := N0.out; have n3 := N1.out; obtain ⟨z24, z25, z26, z27, f24, f25, f26, f27⟩ := bx4_ B0.out; obtain ⟨z28, z29, z30, z31, f28, f29, f30, f31⟩ := bx4_ B1.out) | (go_at_call 31; (with_reducible refine (sleuthlaw0_SameTexts.calls k _ _ l0_2 _ _ l1_2 false _ ?s1 ?s2 ?s3 ?s4 A5.out).mono ?_); (case s1 => exact cB_ HR0_2.out); (case s2 => exact HC0_2.out); (case s3 => exact cB_ HR1_2.out); (case s4 => exact HC1_2.out); rintro e w' ⟨rfl, ⟨nd, rfl⟩⟩))
 go_ret
 exact ⟨hV_, hC_⟩
set_option maxHeartbeats 8000000
set_option maxRecDepth 100000
attribute [local go_sem] max2_int min2_int max_two min_two max_three min_three max_four min_four   -- for this text's walks alone
set_option linter.unusedVariables false
set_option linter.unusedSimpArgs false

def sleuthlaw0_SameNodes.l0 : Nat → List (S40) → List (S40) → Int → Option (Bool)
 | 0, _, _, _ => none
 | k + 1, x0, x1, x5 => if x5 < (x0.length : Int) then (if 0 ≤ x5 then (if x5 < (x1.length : Int) then ((sleuthlaw0_SameNode.f k ((rd_T40 x0 x5).f0) ((rd_T40 x0 x5).f1) ((rd_T40 x0 x5).f2) ((rd_T40 x0 x5).f3) ((rd_T40 x1 x5).f0) ((rd_T40 x1 x5).f1) ((rd_T40 x1 x5).f2) ((rd_T40 x1 x5).f3)).bind fun t327 => (if t327 = true then (sleuthlaw0_SameNodes.l0 k x0 x1 (wrap64 (x5 + 1))) else (some false))) else (none)) else (none)) else (some true)
def sleuthlaw0_SameNodes.f (k : Nat) (l0 : List (S40)) (l1 : List (S40)) : Option (Bool) := if (l0.length : Int) = (l1.length : Int) then (sleuthlaw0_SameNodes.l0 k l0 l1 0) else (some false)
def sleuthlaw0_SameNodes.T6 : Bool × List (List Nat × List Nat) := (true, [([], []), ([], []), ([0, 1], [0, 1]), ([2], [2]), ([], []), ([], []), ([4, 5], [4, 5]), ([6], [6]), ([3, 7], [3, 7]), ([8], [8])])
def sleuthlaw0_SameNodes.B6 : List Nat := [0, 0, 3, 7, 0, 0, 48, 112, 255, 511]
theorem sleuthlaw0_SameNodes.tab6 : rtab .any (opsOf Tryd.f9 6) = sleuthlaw0_SameNodes.T6 := by kernel_rfl
theorem sleuthlaw0_SameNodes.bits6 : waitsOk sleuthlaw0_SameNodes.T6.2 sleuthlaw0_SameNodes.B6 = true := by kernel_rfl
theorem sleuthlaw0_SameNodes.calls (k : Nat) (A0 : Option Addr) (c0 : Nat) (l0 : List (S40)) (A1 : Option Addr) (c1 : Nat) (l1 : List (S40)) (r : Bool) (w : World) (hr0 : Kd.C k40 w A0 l0.length l0) (hc0 : l0.length ≤ c0) (hr1 : Kd.C k40 w A1 l1.length l1) (hc1 : l1.length ≤ c1) (h : sleuthlaw0_SameNodes.f k l0 l1 = some r) :
 Calls Tryd.prog 9 #[.slice A0 l0.length c0, .slice A1 l1.length c1] w fun e w' => e = .returned (.bool r) ∧ Below w.heap.size w w' := by
 have hu40 := Tryd.underlying40
 have HR0 := a_ hr0
 have HC0 := a_ hc0
 clear hr0 hc0
 have HR1 := a_ hr1
 have HC1 := a_ hc1
 clear hr1 hc1
 have HB := a_ (Below.refl w.heap.size w)
 have H := h; unfold sleuthlaw0_SameNodes.f at H
 clear h
 by_cases c3 : (l0.length : Int) = (l1.length : Int)
 case neg =>
  rw [if_neg c3] at H
  have c3b0 : ((l0.length : Int) == (l1.length : Int)) = false := beq_eq_false_iff_ne.mpr c3
  have c3b1 : ((l0.length : Int) != (l1.length : Int)) = true := bne_iff_ne.mpr c3
  have c3b2 : (l0.length == l1.length) = false := by first | simpa using c3 | (simp at c3 ⊢; omega)
  obtain rfl := Option.some.inj H
  go_enter Tryd.func9, Tryd.ntmps9
  go_wp2
  go_ret
  exact ⟨hV_, hC_⟩

 rw [if_pos c3] at H
 have c3b0 : ((l0.length : Int) == (l1.length : Int)) = true := beq_iff_eq.mpr c3
 have c3b1 : ((l0.length : Int) != (l1.length : Int)) = false := bne_eq_false_iff_eq.mpr c3
 have c3b2 : (l0.length == l1.length) = true := by first | simpa using c3 | (simp at c3 ⊢; omega)
 clear c3
 have H' := a_ H
 clear H
 go_enter Tryd.func9, Tryd.ntmps9
 go_wp2
 go_loopg [5] k (fun kq v5 w' => ∃ (x0 : Int), v5 = .int .i64 x0 ∧ Aside0 (sleuthlaw0_SameNodes.l0 kq l0 l1 x0 = some r) ∧ Aside0 (kq ≤ k) ∧ Aside0 (Below w.heap.size w w'))
 case atStart => exact ⟨(0), hW_, H', ⟨Nat.le_refl _⟩, ⟨hC_⟩⟩
 case round =>
  clear H'
  try clear c1
  try clear p2
  try clear c3
  try clear c3b0
  try clear c3b1
  try clear c3b2
  obtain ⟨x0, rfl, HA, HK1, HB⟩ := hrel
  cases gk with
  | zero => exact absurd HA.out (by simp [sleuthlaw0_SameNodes.l0])
  | succ k1 =>
   have H := HA.out
   clear HA
   simp only [sleuthlaw0_SameNodes.l0] at H
   by_cases c4 : x0 < (l0.length : Int)
   case neg =>
    rw [if_neg c4] at H
    have c4b0 : decide (x0 < (l0.length : Int)) = false := decide_eq_false c4
    clear c4
    obtain rfl := Option.some.inj H
    go_wp2
    go_ret
    exact ⟨hV_, hC_⟩
   rw [if_pos c4] at H
   have c4b0 : decide (x0 < (l0.length : Int)) = true := decide_eq_true c4
   clear c4
   replace H := ifI_ H; obtain ⟨c5, H⟩ := H
   have c5b0 : decide (0 ≤ x0) = true := decide_eq_true c5
   clear c5
   replace H := ifI_ H; obtain ⟨c6, H⟩ := H
   have c6b0 : decide (x0 < (l1.length : Int)) = true := decide_eq_true c6
   clear c6
   replace H := Option.bind_eq_some_iff.mp H
   obtain ⟨t0, A70, H⟩ := H
   try dsimp only at H
   have A7 := a_ A70
   clear A70
   by_cases c8 : t0 = true
   case neg =>
    replace c8 := Bool.eq_false_iff.mpr c8
    subst c8
    rw [if_neg (show ¬ (false = true) by decide)] at H
    obtain rfl := Option.some.inj H
    try go_wp2
    replace HB := a_ (below_drew1 HB.out)
    have p325 : 0 ≤ (x0 : Int) := of_decide_eq_true hA_
    have q325 : x0 < (l0.length : Int) := of_decide_eq_true hA_
    obtain ⟨d0, A325_2, c325_2, e325, h0, h1, h2, h3, hl325_2, hi325_2⟩ := at_T40 HR0.out x0 p325 q325
    have hw325_3 := h3
    have hw325_2 := h2
    have hw325_1 := h1
    have hw325_0 := h0
    cases e325
    replace h0 := cl_ HB.out h0
    replace h1 := cl_ HB.out h1
    replace h2 := cl_ HB.out h2
    replace h3 := cl_ HB.out h3
    have HR325_2 := a_ hi325_2
    have HC325_2 := a_ hl325_2
    clear hi325_2 hl325_2
    replace p325 := eq_true p325
    replace q325 := eq_true q325
    have p326 : 0 ≤ (x0 : Int) := of_decide_eq_true hA_
    have q326 : x0 < (l1.length : Int) := of_decide_eq_true hA_
    obtain ⟨d1, A326_2, c326_2, e326, h4, h5, h6, h7, hl326_2, hi326_2⟩ := at_T40 HR1.out x0 p326 q326
    have hw326_3 := h7
    have hw326_2 := h6
    have hw326_1 := h5
    have hw326_0 := h4
    cases e326
    replace h4 := cl_ HB.out h4
    replace h5 := cl_ HB.out h5
    replace h6 := cl_ HB.out h6
    replace h7 := cl_ HB.out h7
    have HR326_2 := a_ hi326_2
    have HC326_2 := a_ hl326_2
    clear hi326_2 hl326_2
    replace p326 := eq_true p326
    replace q326 := eq_true q326
    refine start_ (n := 10) (S := fun w' => w'.cell? (d0.add ((x0).toNat * 4)) = some (.int .i64 ((rd_T40 l0 x0).f0)) ∧ w'.cell? ⟨(d0.add ((x0).toNat * 4)).block, (d0.add ((x0).toNat * 4)).off + 1, none⟩ = some (.int .i64 ((rd_T40 l0 x0).f1)) ∧ w'.cell? ⟨(d0.add ((x0).toNat * 4)).block, (d0.add ((x0).toNat * 4)).off + 2, none⟩ = some (.slice A325_2 ((rd_T40 l0 x0).f2).length c325_2) ∧ w'.cell? ⟨(d0.add ((x0).toNat * 4)).block, (d0.add ((x0).toNat * 4)).off + 3, none⟩ = some (.string ((rd_T40 l0 x0).f3)) ∧ w'.cell? (d1.add ((x0).toNat * 4)) = some (.int .i64 ((rd_T40 l1 x0).f0)) ∧ w'.cell? ⟨(d1.add ((x0).toNat * 4)).block, (d1.add ((x0).toNat * 4)).off + 1, none⟩ = some (.int .i64 ((rd_T40 l1 x0).f1)) ∧ w'.cell? ⟨(d1.add ((x0).toNat * 4)).block, (d1.add ((x0).toNat * 4)).off + 2, none⟩ = some (.slice A326_2 ((rd_T40 l1 x0).f2).length c326_2) ∧ w'.cell? ⟨(d1.add ((x0).toNat * 4)).block, (d1.add ((x0).toNat * 4)).off + 3, none⟩ = some (.string ((rd_T40 l1 x0).f3))) (ds := []) #[false, false, false, false, false, false, false, false, false, false] (by kernel_rfl) rfl rfl ⟨(cl_ HB.out hw325_0), (cl_ HB.out hw325_1), (cl_ HB.out hw325_2), (cl_ HB.out hw325_3), (cl_ HB.out hw326_0), (cl_ HB.out hw326_1), (cl_ HB.out hw326_2), (cl_ HB.out hw326_3)⟩ (fun hHeld => ?_); refine with_tabW sleuthlaw0_SameNodes.tab6 sleuthlaw0_SameNodes.bits6 (fun HT_ HW_ => ?_)
    generalize wr.drew = w0 at HB HR325_2 HR326_2 h0 h1 h2 h3 h4 h5 h6 h7 hHeld ⊢
    refine pB_ 0 17 HT_.out ?_
    refine pB_ 1 18 HT_.out ?_
    refine pB_ 2 19 HT_.out ?_
    refine pB_ 4 21 HT_.out ?_
    refine pB_ 5 22 HT_.out ?_
    refine pB_ 6 23 HT_.out ?_
    refine tB_ 3 20 HT_.out HW_.out hHeld ?_
    refine tB_ 7 24 HT_.out HW_.out hHeld ?_
    refine one_ (i := 8) (N := some 25) #[true, true, true, true, true, true, true, true, true, false] rfl rfl (one_of HT_.out (by kernel_rfl)) (by decide) (fun K hK => ?_)
    refine goes_ Tryd.func17 (by kernel_rfl) rfl #[.agg #[.int .i64 ((rd_T40 l0 x0).f0), .int .i64 ((rd_T40 l0 x0).f1), .slice A325_2 ((rd_T40 l0 x0).f2).length c325_2, .string ((rd_T40 l0 x0).f3)], .agg #[.int .i64 ((rd_T40 l1 x0).f0), .int .i64 ((rd_T40 l1 x0).f1), .slice A326_2 ((rd_T40 l1 x0).f2).length c326_2, .string ((rd_T40 l1 x0).f3)]] (by rfl) rfl rfl hL_ ?_
    with_reducible refine (sleuthlaw0_SameNode.calls k1 ((rd_T40 l0 x0).f0) ((rd_T40 l0 x0).f1) _ _ ((rd_T40 l0 x0).f2) ((rd_T40 l0 x0).f3) ((rd_T40 l1 x0).f0) ((rd_T40 l1 x0).f1) _ _ ((rd_T40 l1 x0).f2) ((rd_T40 l1 x0).f3) false _ ?s1 ?s2 ?s3 ?s4 A7.out).mono ?_
    (case s1 => exact cB_ HR325_2.out)
    (case s2 => exact HC325_2.out)
    (case s3 => exact cB_ HR326_2.out)
    (case s4 => exact HC326_2.out)
    rintro e w1 ⟨rfl, hb⟩
    refine ⟨_, rfl, ?_⟩
    replace HB := a_ (below_step hB_ hb)
    (try clear hb)
    (try clear hb2)
    (try clear hk)
    (try clear hi)
    refine hK.out _ _ ⟨(cl_ HB.out hw325_0), (cl_ HB.out hw325_1), (cl_ HB.out hw325_2), (cl_ HB.out hw325_3), (cl_ HB.out hw326_0), (cl_ HB.out hw326_1), (cl_ HB.out hw326_2), (cl_ HB.out hw326_3)⟩ (fun hHeld => ?_)
    clear hK K
    refine norm_ (a' := ?_) ?_ ?_
    rotate_left
    · show Act.put _ (some 25) _ = _
      simp only [Act.put, List.setIfInBounds_toArray, List.set_cons_zero, List.set_cons_succ, i64_w, i32_w]
      rfl
    refine pB_ 9 26 HT_.out ?_
    refine done_ (done_of HT_.out (by kernel_rfl)) ?_
    try go_wp2
    go_ret
    exact ⟨hV_, hC_⟩
   subst c8
   rw [if_pos rfl] at H
   have H' := a_ H
   clear H
   try go_wp2
   replace HB := a_ (below_drew1 HB.out)
   have p325 : 0 ≤ (x0 : Int) := of_decide_eq_true hA_
   have q325 : x0 < (l0.length : Int) := of_decide_eq_true hA_
   obtain ⟨d0, A325_2, c325_2, e325, h0, h1, h2, h3, hl325_2, hi325_2⟩ := at_T40 HR0.out x0 p325 q325
   have hw325_3 := h3
   have hw325_2 := h2
   have hw325_1 := h1
   have hw325_0 := h0
   cases e325
   replace h0 := cl_ HB.out h0
   replace h1 := cl_ HB.out h1
   replace h2 := cl_ HB.out h2
   replace h3 := cl_ HB.out h3
   have HR325_2 := a_ hi325_2
   have HC325_2 := a_ hl325_2
   clear hi325_2 hl325_2
   replace p325 := eq_true p325
   replace q325 := eq_true q325
   have p326 : 0 ≤ (x0 : Int) := of_decide_eq_true hA_
   have q326 : x0 < (l1.length : Int) := of_decide_eq_true hA_
   obtain ⟨d1, A326_2, c326_2, e326, h4, h5, h6, h7, hl326_2, hi326_2⟩ := at_T40 HR1.out x0 p326 q326
   have hw326_3 := h7
   have hw326_2 := h6
   have hw326_1 := h5
   have hw326_0 := h4
   cases e326
   replace h4 := cl_ HB.out h4
   replace h5 := cl_ HB.out h5
   replace h6 := cl_ HB.out h6
   replace h7 := cl_ HB.out h7
   have HR326_2 := a_ hi326_2
   have HC326_2 := a_ hl326_2
   clear hi326_2 hl326_2
   replace p326 := eq_true p326
   replace q326 := eq_true q326
   refine start_ (n := 10) (S := fun w' => w'.cell? (d0.add ((x0).toNat * 4)) = some (.int .i64 ((rd_T40 l0 x0).f0)) ∧ w'.cell? ⟨(d0.add ((x0).toNat * 4)).block, (d0.add ((x0).toNat * 4)).off + 1, none⟩ = some (.int .i64 ((rd_T40 l0 x0).f1)) ∧ w'.cell? ⟨(d0.add ((x0).toNat * 4)).block, (d0.add ((x0).toNat * 4)).off + 2, none⟩ = some (.slice A325_2 ((rd_T40 l0 x0).f2).length c325_2) ∧ w'.cell? ⟨(d0.add ((x0).toNat * 4)).block, (d0.add ((x0).toNat * 4)).off + 3, none⟩ = some (.string ((rd_T40 l0 x0).f3)) ∧ w'.cell? (d1.add ((x0).toNat * 4)) = some (.int .i64 ((rd_T40 l1 x0).f0)) ∧ w'.cell? ⟨(d1.add ((x0).toNat * 4)).block, (d1.add ((x0).toNat * 4)).off + 1, none⟩ = some (.int .i64 ((rd_T40 l1 x0).f1)) ∧ w'.cell? ⟨(d1.add ((x0).toNat * 4)).block, (d1.add ((x0).toNat * 4)).off + 2, none⟩ = some (.slice A326_2 ((rd_T40 l1 x0).f2).length c326_2) ∧ w'.cell? ⟨(d1.add ((x0).toNat * 4)).block, (d1.add ((x0).toNat * 4)).off + 3, none⟩ = some (.string ((rd_T40 l1 x0).f3))) (ds := []) #[false, false, false, false, false, false, false, false, false, false] (by kernel_rfl) rfl rfl ⟨(cl_ HB.out hw325_0), (cl_ HB.out hw325_1), (cl_ HB.out hw325_2), (cl_ HB.out hw325_3), (cl_ HB.out hw326_0), (cl_ HB.out hw326_1), (cl_ HB.out hw326_2), (cl_ HB.out hw326_3)⟩ (fun hHeld => ?_); refine with_tabW sleuthlaw0_SameNodes.tab6 sleuthlaw0_SameNodes.bits6 (fun HT_ HW_ => ?_)
   generalize wr.drew = w9 at HB HR325_2 HR326_2 h0 h1 h2 h3 h4 h5 h6 h7 hHeld ⊢
   refine pB_ 0 17 HT_.out ?_
   refine pB_ 1 18 HT_.out ?_
   refine pB_ 2 19 HT_.out ?_
   refine pB_ 4 21 HT_.out ?_
   refine pB_ 5 22 HT_.out ?_
   refine pB_ 6 23 HT_.out ?_
   refine tB_ 3 20 HT_.out HW_.out hHeld ?_
   refine tB_ 7 24 HT_.out HW_.out hHeld ?_
   refine one_ (i := 8) (N := some 25) #[true, true, true, true, true, true, true, true, true, false] rfl rfl (one_of HT_.out (by kernel_rfl)) (by decide) (fun K hK => ?_)
   refine goes_ Tryd.func17 (by kernel_rfl) rfl #[.agg #[.int .i64 ((rd_T40 l0 x0).f0), .int .i64 ((rd_T40 l0 x0).f1), .slice A325_2 ((rd_T40 l0 x0).f2).length c325_2, .string ((rd_T40 l0 x0).f3)], .agg #[.int .i64 ((rd_T40 l1 x0).f0), .int .i64 ((rd_T40 l1 x0).f1), .slice A326_2 ((rd_T40 l1 x0).f2).length c326_2, .string ((rd_T40 l1 x0).f3)]] (by rfl) rfl rfl hL_ ?_
   with_reducible refine (sleuthlaw0_SameNode.calls k1 ((rd_T40 l0 x0).f0) ((rd_T40 l0 x0).f1) _ _ ((rd_T40 l0 x0).f2) ((rd_T40 l0 x0).f3) ((rd_T40 l1 x0).f0) ((rd_T40 l1 x0).f1) _ _ ((rd_T40 l1 x0).f2) ((rd_T40 l1 x0).f3) true _ ?s1 ?s2 ?s3 ?s4 A7.out).mono ?_
   (case s1 => exact cB_ HR325_2.out)
   (case s2 => exact HC325_2.out)
   (case s3 => exact cB_ HR326_2.out)
   (case s4 => exact HC326_2.out)
   rintro e w2 ⟨rfl, hb⟩
   refine ⟨_, rfl, ?_⟩
   replace HB := a_ (below_step hB_ hb)
   (try clear hb)
   (try clear hb2)
   (try clear hk)
   (try clear hi)
   refine hK.out _ _ ⟨(cl_ HB.out hw325_0), (cl_ HB.out hw325_1), (cl_ HB.out hw325_2), (cl_ HB.out hw325_3), (cl_ HB.out hw326_0), (cl_ HB.out hw326_1), (cl_ HB.out hw326_2), (cl_ HB.out hw326_3)⟩ (fun hHeld => ?_)
   clear hK K
   refine norm_ (a' := ?_) ?_ ?_
   rotate_left
   · show Act.put _ (some 25) _ = _
     simp only [Act.put, List.setIfInBounds_toArray, List.set_cons_zero, List.set_cons_succ, i64_w, i32_w]
     rfl
   refine pB_ 9 26 HT_.out ?_
   refine done_ (done_of HT_.out (by kernel_rfl)) ?_
   try go_wp2
   go_roundg k1
   case measure => have := HK1.out; omega
   case rel => exact ⟨(wrap64 (x0 + 1)), hW_, H', ⟨by have := HK1.out; omega⟩, ⟨hC_⟩⟩
end Go.Proofs.YtifhpkakdlfgnaaDoor.G
end
section
namespace Go.Proofs.YtifhpkakdlfgnaaDoor.G
open Go.RowKit Go.Proofs.YtifhpkakdlfgnaaDoorW.PrintWords Go.Proofs.YtifhpkakdlfgnaaDoorW.PrintLast Go.Proofs.YtifhpkakdlfgnaaDoorW.PrintMore
set_option linter.unusedVariables false
set_option linter.unusedSimpArgs false
def fineN (l : List Nd) : Prop := l.length * 56 ≤ 140737488351232 ∧ ∀ x ∈ l, (Lit.int .i64 x.f0).wf = true ∧ (Lit.int .i64 x.f1).wf = true ∧ (x.f2.length * 16 ≤ 140737488351232 ∧ ∀ s ∈ x.f2, s.size ≤ 140737488351232) ∧ x.f3.size ≤ 140737488351232
theorem fineN.ok {l : List Nd} (h : fineN l) : okN l := ⟨by have := h.1; omega, fun x hx => by have := (h.2 x hx).2.2.1.1; omega⟩
theorem copy_l0 (ns : List Nd) (hok : okN ns) : ∀ (n i : Nat), i + n = ns.length → Ev (fun k => sleuthlaw0_CopyNodes.l0 k ns (ns.take i) (i : Int)) ns := by
  intro n
  induction n with
  | zero =>
    intro i hi
    refine Ev.step (f := fun _ => some ns) (fun k => ?_) (Ev.now _)
    simp only [sleuthlaw0_CopyNodes.l0]
    rw [if_neg (by omega), List.take_of_length_le (by omega)]
  | succ n ih =>
    intro i hi
    have hlt : i < ns.length := by omega
    have hl := hok.1
    have hw : wrap64 ((i : Int) + 1) = ((i + 1 : Nat) : Int) := by rw [w64 (by omega) (by omega)]; omega
    refine Ev.step (f := fun k => sleuthlaw0_CopyNodes.l0 k ns (ns.take (i + 1)) ((i + 1 : Nat) : Int)) (fun k => ?_) (ih (i + 1) (by omega))
    have hat := hok.at (i : Int)
    simp only [sleuthlaw0_CopyNodes.l0, Option.bind_some, List.nil_append]
    rw [if_pos (by omega), if_pos (by omega), if_pos (show ([] : List ByteArray).length + (rn ns (i : Int)).f2.length < 8796093022208 by rw [List.length_nil]; omega), if_pos (by rw [List.length_take]; omega), hw]
    have : (ns.take i ++ [(⟨(rn ns (i : Int)).f0, (rn ns (i : Int)).f1, (rn ns (i : Int)).f2, (rn ns (i : Int)).f3⟩ : Nd)]) = ns.take (i + 1) := by
      rw [List.take_succ_eq_append_getElem hlt, rn_eq ns i hlt]
    rw [this]
theorem copy_ev (ns : List Nd) (hok : okN ns) : Ev (fun k => sleuthlaw0_CopyNodes.f k ns) ns := copy_l0 ns hok ns.length 0 (by omega)
theorem sameInts_l0 (a : List Int) (ha : a.length ≤ 9223372036854775806) : ∀ (n i : Nat), i + n = a.length → Ev (fun k => sleuthlaw0_SameInts.l0 k a a (i : Int)) true := by
  intro n
  induction n with
  | zero =>
    intro i hi
    refine Ev.step (f := fun _ => some true) (fun k => ?_) (Ev.now _)
    rw [sleuthlaw0_SameInts.l0, if_neg (by omega)]
  | succ n ih =>
    intro i hi
    have hw : wrap64 ((i : Int) + 1) = ((i + 1 : Nat) : Int) := by rw [w64 (by omega) (by omega)]; omega
    refine Ev.step (f := fun k => sleuthlaw0_SameInts.l0 k a a ((i + 1 : Nat) : Int)) (fun k => ?_) (ih (i + 1) (by omega))
    rw [sleuthlaw0_SameInts.l0, if_pos (by omega), if_pos (by omega), if_pos (by omega), if_pos rfl, hw]
theorem sameInts_ev (a : List Int) (ha : a.length ≤ 9223372036854775806) : Ev (fun k => sleuthlaw0_SameInts.f k a a) true := by
  unfold sleuthlaw0_SameInts.f
  simp only [if_pos]
  exact sameInts_l0 a ha a.length 0 (by omega)
theorem sameTexts_l0 (a : List ByteArray) (ha : a.length ≤ 9223372036854775806) : ∀ (n i : Nat), i + n = a.length → Ev (fun k => sleuthlaw0_SameTexts.l0 k a a (i : Int)) true := by
  intro n
  induction n with
  | zero =>
    intro i hi
    refine Ev.step (f := fun _ => some true) (fun k => ?_) (Ev.now _)
    rw [sleuthlaw0_SameTexts.l0, if_neg (by omega)]
  | succ n ih =>
    intro i hi
    have hw : wrap64 ((i : Int) + 1) = ((i + 1 : Nat) : Int) := by rw [w64 (by omega) (by omega)]; omega
    refine Ev.step (f := fun k => sleuthlaw0_SameTexts.l0 k a a ((i + 1 : Nat) : Int)) (fun k => ?_) (ih (i + 1) (by omega))
    rw [sleuthlaw0_SameTexts.l0, if_pos (by omega), if_pos (by omega), if_pos (by omega), if_pos rfl, hw]
theorem sameTexts_ev (a : List ByteArray) (ha : a.length ≤ 9223372036854775806) : Ev (fun k => sleuthlaw0_SameTexts.f k a a) true := by
  unfold sleuthlaw0_SameTexts.f
  simp only [if_pos]
  exact sameTexts_l0 a ha a.length 0 (by omega)
theorem sameNode_ev (x : Nd) (hx : x.f2.length ≤ 9223372036854775806) : Ev (fun k => sleuthlaw0_SameNode.f k x.f0 x.f1 x.f2 x.f3 x.f0 x.f1 x.f2 x.f3) true := by
  unfold sleuthlaw0_SameNode.f
  simp only [if_pos]
  refine Ev.bind (sameTexts_ev _ hx) ?_
  simp only [if_pos, beq_self_eq_true]
  exact Ev.now _
theorem sameNodes_l0 (a : List Nd) (ha : okN a) : ∀ (n i : Nat), i + n = a.length → Ev (fun k => sleuthlaw0_SameNodes.l0 k a a (i : Int)) true := by
  intro n
  have hl := ha.1
  induction n with
  | zero =>
    intro i hi
    refine Ev.step (f := fun _ => some true) (fun k => ?_) (Ev.now _)
    simp only [sleuthlaw0_SameNodes.l0]
    rw [if_neg (by omega)]
  | succ n ih =>
    intro i hi
    have hw : wrap64 ((i : Int) + 1) = ((i + 1 : Nat) : Int) := by rw [w64 (by omega) (by omega)]; omega
    refine Ev.step (f := fun k => (sleuthlaw0_SameNode.f k (rn a (i : Int)).f0 (rn a (i : Int)).f1 (rn a (i : Int)).f2 (rn a (i : Int)).f3 (rn a (i : Int)).f0 (rn a (i : Int)).f1 (rn a (i : Int)).f2 (rn a (i : Int)).f3).bind fun t => if t = true then sleuthlaw0_SameNodes.l0 k a a ((i + 1 : Nat) : Int) else some false) (fun k => ?_) ?_
    · rw [sleuthlaw0_SameNodes.l0, if_pos (by omega), if_pos (by omega), if_pos (by omega), hw]
    · refine Ev.bind (sameNode_ev (rn a (i : Int)) (Nat.le_trans (ha.at _) (by omega))) ?_
      simp only [if_pos]
      exact ih (i + 1) (by omega)
theorem sameNodes_ev (a : List Nd) (ha : okN a) : Ev (fun k => sleuthlaw0_SameNodes.f k a a) true := by
  unfold sleuthlaw0_SameNodes.f
  simp only [if_pos]
  exact sameNodes_l0 a ha a.length 0 (by omega)
def fineI (l : List Int) : Prop := l.length * 8 ≤ 140737488351232 ∧ ∀ x ∈ l, (Lit.int .i64 x).wf = true
end Go.Proofs.YtifhpkakdlfgnaaDoor.G
end
section
namespace Go.Proofs.YtifhpkakdlfgnaaDoor.G
open Go.RowKit Go.Proofs.YtifhpkakdlfgnaaDoorW.PrintWords Go.Proofs.YtifhpkakdlfgnaaDoorW.PrintLast Go.Proofs.YtifhpkakdlfgnaaDoorW.PrintMore
set_option maxHeartbeats 8000000
set_option maxRecDepth 100000
attribute [local go_sem] max2_int min2_int max_two min_two max_three min_three max_four min_four   -- for this text's walks alone
set_option linter.unusedVariables false
set_option linter.unusedSimpArgs false

def oddB (x : Int) : Bool := decide (x < 0) || decide (3 < x)
theorem oddB_calls (i : Int) (W : World) : Calls Tryd.prog 20 #[.int .i64 i] W fun e W' => e = .returned (.bool (oddB i)) ∧ W' = W := by
 unfold oddB
 by_cases c : i < 0
 case pos =>
  have cb := decide_eq_true c
  rw [cb, Bool.true_or]
  go_enter Tryd.func20, Tryd.ntmps20
  go_wp2
  go_ret
  exact ⟨rfl, rfl⟩
 have cb := decide_eq_false c
 rw [cb, Bool.false_or]
 go_enter Tryd.func20, Tryd.ntmps20
 go_wp2
 go_ret
 exact ⟨rfl, rfl⟩
theorem indexF.in_ (n : Nat) (hn : 1 ≤ n) (A1 : Option Addr) (c1 : Nat) (l1 : List Int) (hlen : l1.length ≤ 9223372036854775806) (w0 w : World) (hC : Kd.C (Kd.int .i64) w0 A1 l1.length l1) (hB : Below w0.heap.size w0 w) :
 CallsIn Fence.wide n Tryd.prog 33 #[.slice A1 l1.length c1, .func (.func 20) #[] #[]] w fun e w' => ∃ x : Int, e = .returned (.int .i64 x) ∧ (decide (0 ≤ x) = l1.any oddB) ∧ w' = w := by
 have ffg : Fence.wide.fn 20 := trivial
 refine callsIn_of_wp Tryd.func33 rfl trivial ?_ rfl
 simp only [Tryd.ntmps33, List.size_toArray, List.length_cons, List.length_nil, Nat.reduceAdd, Nat.reduceSub, Array.replicate_succ, Array.replicate_zero, List.push_toArray, List.append_toArray, List.nil_append, List.cons_append]
 gi_wp2
 gi_loopw [8] (fun v wr => ∃ x : Int, v = .int .i64 x ∧ Aside0 (0 ≤ x ∧ x ≤ (l1.length : Int)) ∧ Aside0 ((l1.take x.toNat).any oddB = false ∧ wr = w))
  (fun v _ => l1.length - (intOf v).toNat)
 case atStart => exact ⟨0, by first | rfl | (congr 1; omega) | (simp; omega), ⟨by omega, by omega⟩, ⟨rfl, rfl⟩⟩
 case round =>
  obtain ⟨x, rfl, HX, HJ⟩ := hrel
  by_cases hlt : x < (l1.length : Int)
  case neg =>
   have hltb := decide_eq_false hlt
   have HN := a_ hlt
   clear hlt
   gi_wp2
   go_ret
   refine ⟨-1, rfl, ?_, HJ.out.2⟩
   have h := HJ.out.1
   rw [show x.toNat = l1.length by have := HX.out; have := HN.out; omega, List.take_length] at h
   rw [h]; rfl
  have hx0 : 0 ≤ x := HX.out.1
  obtain ⟨ad, e0, g0⟩ := Kd.at_int hC x hx0 hlt
  cases e0
  obtain ⟨hany, rfl⟩ := HJ.out
  have g1 := (hB.cell (World.block_lt_of_cell? w0 _ g0)).trans g0
  have htk : l1.take (x.toNat + 1) = l1.take x.toNat ++ [rd l1 x] := by
   rw [List.take_add_one, List.getElem?_eq_getElem (show x.toNat < l1.length by omega)]
   show _ ++ [_] = _ ++ [List.getD _ _ _]
   rw [List.getD_eq_getElem?_getD, List.getElem?_eq_getElem (show x.toNat < l1.length by omega)]; rfl
  have HT := a_ (And.intro htk (And.intro hany (And.intro hx0 hlt)))
  have hltb := decide_eq_true hlt
  clear htk hany g0
  replace hlt := eq_true hlt
  replace hx0 := eq_true hx0
  cases ho : oddB (rd l1 x) with
  | true =>
   have HO := a_ ho
   clear ho
   gi_wp2_with (first
    | (gi_at_call 20; refine ((callsIn_wide (n := n - 1)).2 (oddB_calls _ _)).mono ?_; rintro e w5 ⟨rfl, rfl⟩; rw [HO.out]))
   refine bodyPost_ret (by simp [results, go_sem]; rfl) rfl ?_
   refine ⟨x, rfl, ?_, rfl⟩
   obtain ⟨htk, _, hx0', hlt'⟩ := HT.out
   rw [decide_eq_true hx0']
   symm
   refine List.any_eq_true.2 ⟨rd l1 x, ?_, HO.out⟩
   have : rd l1 x ∈ l1.take (x.toNat + 1) := by rw [htk]; simp
   exact List.mem_of_mem_take this
  | false =>
   have HO := a_ ho
   clear ho
   gi_wp2_with (first
    | (gi_at_call 20; refine ((callsIn_wide (n := n - 1)).2 (oddB_calls _ _)).mono ?_; rintro e w5 ⟨rfl, rfl⟩; rw [HO.out]))
   obtain ⟨htk, hany, hx0', hlt'⟩ := HT.out
   have hw : wrap64 (x + 1) = x + 1 := by unfold wrap64; omega
   rw [hw]
   refine ⟨⟨x + 1, rfl, ⟨by omega, by omega⟩, ⟨?_, by first | rfl | trivial⟩⟩, by simp only [intOf]; omega⟩
   rw [show (x + 1).toNat = x.toNat + 1 by omega, htk, List.any_append, hany]
   simp [HO.out]
theorem containsF.in_ (A1 : Option Addr) (c1 : Nat) (l1 : List Int) (hlen : l1.length ≤ 9223372036854775806) (w0 w : World) (hC : Kd.C (Kd.int .i64) w0 A1 l1.length l1) (hB : Below w0.heap.size w0 w) :
 CallsIn Fence.wide 2 Tryd.prog 22 #[.slice A1 l1.length c1, .func (.func 20) #[] #[]] w fun e w' => e = .returned (.bool (l1.any oddB)) ∧ w' = w := by
 have ff : Fence.wide.fn 33 := trivial
 refine callsIn_of_wp Tryd.func22 rfl trivial ?_ rfl
 simp only [Tryd.ntmps22, List.size_toArray, List.length_cons, List.length_nil, Nat.reduceAdd, Nat.reduceSub, Array.replicate_succ, Array.replicate_zero, List.push_toArray, List.append_toArray, List.nil_append, List.cons_append]
 gi_wp2_with (first
  | (gi_at_call 33; refine (indexF.in_ (2 - 1) (by omega) A1 c1 l1 hlen w0 _ hC hB).mono ?_; rintro e w5 ⟨x, rfl, hx, rfl⟩; have HX := a_ hx; clear hx))
 go_ret
 exact ⟨by rw [← HX.out]; rfl, rfl⟩
def top_May.f (k : Nat) (l0 : List S40) (l1 : List Int) : Option Bool := (trail_May.f k l0).bind fun t => some (t && (decide (l1.length = l0.length) && !l1.any oddB))
theorem top_May.calls (k : Nat) (A0 : Option Addr) (c0 : Nat) (l0 : List (S40)) (A1 : Option Addr) (c1 : Nat) (l1 : List Int) (r : Bool) (w : World) (hr0 : Kd.C k40 w A0 l0.length l0) (hc0 : l0.length ≤ c0) (hr1 : Kd.C (Kd.int .i64) w A1 l1.length l1) (hc1 : l1.length ≤ c1) (h : top_May.f k l0 l1 = some r) (hG : GOK w) :
 Calls Tryd.prog 13 #[.slice A0 l0.length c0, .slice A1 l1.length c1] w fun e w' => e = .returned (.bool r) ∧ Below w.heap.size w w' := by
 have HR0 := a_ hr0
 have HC0 := a_ hc0
 have HR1 := a_ hr1
 clear hr0 hc0 hr1
 unfold top_May.f at h
 obtain ⟨t, A2, h⟩ := Option.bind_eq_some_iff.mp h
 have HA := a_ A2
 clear A2
 cases t with
 | false =>
  obtain rfl := Option.some.inj h
  go_enter Tryd.func13, Tryd.ntmps13
  go_wp2_with (first
   | (go_at_call 21; (with_reducible refine (trail_May.calls k _ _ l0 false _ HR0.out HC0.out HA.out (by first | exact hG)).mono ?_); rintro e w6 ⟨rfl, hb⟩; have HB := a_ hb; clear hb))
  go_ret
  exact ⟨rfl, HB.out⟩
 | true =>
  rw [Bool.true_and] at h
  have hM := trail_May.true_spec HA.out
  by_cases c : l1.length = l0.length
  case neg =>
   rw [decide_eq_false c, Bool.false_and] at h
   obtain rfl := Option.some.inj h
   have cb : ((l1.length : Int) == (l0.length : Int)) = false := beq_eq_false_iff_ne.2 (by omega)
   clear hM c h
   go_enter Tryd.func13, Tryd.ntmps13
   go_wp2_with (first
    | (go_at_call 21; (with_reducible refine (trail_May.calls k _ _ l0 true _ HR0.out HC0.out HA.out (by first | exact hG)).mono ?_); rintro e w6 ⟨rfl, hb⟩; have HB := a_ hb; clear hb))
   go_ret
   exact ⟨rfl, HB.out⟩

  rw [decide_eq_true c, Bool.true_and] at h
  obtain rfl := Option.some.inj h
  have cb : ((l1.length : Int) == (l0.length : Int)) = true := beq_iff_eq.2 (by omega)
  have HL := a_ (show l1.length ≤ 9223372036854775806 by have := hM.2.1; omega)
  clear hM c h
  go_enter Tryd.func13, Tryd.ntmps13
  go_wp2_with (first
   | (go_at_call 21; (with_reducible refine (trail_May.calls k _ _ l0 true _ HR0.out HC0.out HA.out (by first | exact hG)).mono ?_); rintro e w6 ⟨rfl, hb⟩; have HB := a_ hb; clear hb)
   | (go_at_call 22; refine ((callsIn_wide (n := 2)).1 (containsF.in_ A1 c1 l1 HL.out w _ HR1.out HB.out)).mono ?_; rintro e w7 ⟨rfl, rfl⟩))
  go_ret
  exact ⟨rfl, HB.out⟩
set_option maxHeartbeats 8000000
set_option maxRecDepth 100000
attribute [local go_sem] max2_int min2_int max_two min_two max_three min_three max_four min_four   -- for this text's walks alone
set_option linter.unusedVariables false
set_option linter.unusedSimpArgs false

/-- a node's kids among those ahead of place i -/
def kidsTo (ns : List S40) (a : Int) : Nat → List Int
 | 0 => []
 | i + 1 => if a < (i : Int) ∧ (rd_T40 ns (i : Int)).f1 = a then kidsTo ns a i ++ [(i : Int)] else kidsTo ns a i
theorem kidsTo_pre (ns : List S40) (a : Int) : ∀ {i j : Nat}, i ≤ j → kidsTo ns a i <+: kidsTo ns a j := by
 intro i j h
 induction h with
 | refl => exact List.prefix_refl _
 | step _ ih =>
  rw [kidsTo]
  split
  · exact ih.trans (List.prefix_append _ _)
  · exact ih
theorem kidsTo_none (ns : List S40) (a : Int) : ∀ (i : Nat), (i : Int) ≤ a + 1 → kidsTo ns a i = []
 | 0, _ => rfl
 | i + 1, h => by rw [kidsTo, if_neg (by omega), kidsTo_none ns a i (by omega)]
theorem kidsTo_len (ns : List S40) (a : Int) : ∀ (i : Nat), (kidsTo ns a i).length ≤ i
 | 0 => Nat.le_refl _
 | i + 1 => by
  have := kidsTo_len ns a i
  rw [kidsTo]
  split <;> simp <;> omega

section
attribute [local go_sem] Oper.semAt_some
theorem tree_Below_1.in_ (n : Nat) (hn : 1 ≤ n) (l Bn Ba n₁ N : Nat) (A0 : Option Addr) (c0 : Nat) (l0 : List S40) (a1 : Int) (ha0 : 0 ≤ a1) (ha1 : a1 < (l0.length : Int)) (hlen : l0.length ≤ 9223372036854775806) (w : World) (hC : Kd.C k40 w A0 l0.length l0)
 (hN : ∀ i, i < l0.length → (kidsTo l0 a1 i).length < N) (J Jx : List Int → World → Prop) (hJd : ∀ s W n, J s W → J s (W.drewN n))
 (hY : ∀ pre x W, J pre W → pre.length < N → (0 ≤ x ∧ x < (l0.length : Int)) → YieldAt Fence.wide (n - 1) Tryd.prog l #[.int .i64 x] W fun e W' =>
  (e = .returned (.bool true) ∧ J (pre ++ [x]) W' ∧ Below n₁ W W') ∨ (e = .returned (.bool false) ∧ Jx (pre ++ [x]) W'))
 (W : World) (hB : Below w.heap.size w W) (hw : w.heap.size ≤ n₁) (hBn : W.cell? ⟨Bn, 0, none⟩ = some (.slice A0 l0.length c0)) (hBa : W.cell? ⟨Ba, 0, none⟩ = some (.int .i64 a1)) (hbn : Bn < n₁) (hba : Ba < n₁) (h0 : J [] W) :
 CallsIn Fence.wide n Tryd.prog 37 #[.func (.yield l) #[] #[], .pointer (some ⟨Ba, 0, none⟩), .pointer (some ⟨Bn, 0, none⟩)] W fun e W' => (∃ v, e = .returned v) ∧
  ((∃ ys, ys = kidsTo l0 a1 l0.length ∧ J ys W') ∨ (∃ pre, pre <+: kidsTo l0 a1 l0.length ∧ Jx pre W')) := by
 refine callsIn_of_wp Tryd.func37 rfl trivial ?_ rfl
 simp only [Tryd.ntmps37, List.size_toArray, List.length_cons, List.length_nil, Nat.reduceAdd, Nat.reduceSub, Array.replicate_succ, Array.replicate_zero, List.push_toArray, List.append_toArray, List.nil_append, List.cons_append]
 gi_wp2
 gi_loopw [4] (fun i wr => ∃ x : Int, i = .int .i64 x ∧ Aside0 (a1 < x ∧ x ≤ (l0.length : Int)) ∧ Aside0 (J (kidsTo l0 a1 x.toNat) wr ∧ Below n₁ W wr))
  (fun i _ => l0.length - (intOf i).toNat)
 case atStart => exact ⟨a1 + 1, by first | rfl | (congr 1; omega) | (simp; omega), ⟨by omega, by omega⟩, ⟨by rw [kidsTo_none _ _ _ (by omega)]; exact h0, Below.refl _ _⟩⟩
 case round =>
  obtain ⟨x, rfl, HX, HJ⟩ := hrel
  have hcn := (HJ.out.2.cell (p := ⟨Bn, 0, none⟩) hbn).trans hBn
  have hca := (HJ.out.2.cell (p := ⟨Ba, 0, none⟩) hba).trans hBa
  by_cases hlt : x < (l0.length : Int)
  case neg =>
   have hltb := decide_eq_false hlt
   have hxl : x.toNat = l0.length := by have := HX.out; omega
   have HX2 := a_ hxl
   clear hxl hlt
   gi_wp2
   go_end0
   exact ⟨⟨_, rfl⟩, .inl ⟨_, rfl, by rw [← HX2.out]; exact HJ.out.1⟩⟩
  have hx0 : 0 ≤ x := by have := HX.out; omega
  obtain ⟨ad, A2, c2, e0, g0, g1, g2, g3, hl2, hi2⟩ := at_T40 hC x hx0 hlt
  cases e0
  have hbw : Below w.heap.size w wr := hB.trans (HJ.out.2.mono hw)
  have hp := (hbw.cell (World.block_lt_of_cell? w _ g1)).trans g1
  clear g0 g1 g2 g3 hl2 hi2
  have hxt : (x + 1).toNat = x.toNat + 1 := by omega
  have hxe : ((x.toNat : Nat) : Int) = x := by omega
  have hw1 : IntKind.i64.wrap (x + 1) = x + 1 := IntWalk.i64_in _ (by omega)
  have hw2 := a_ hw1
  clear hw1
  have hlt0 := a_ (And.intro hlt (And.intro hxt hxe))
  clear hxt hxe
  have hltb := decide_eq_true hlt
  replace hlt := eq_true hlt
  replace hx0 := eq_true hx0
  have hmix : Tryd.prog.follows .mixedOrders = true := by kernel_rfl
  by_cases hpar : (rd_T40 l0 x).f1 = a1
  case neg =>
   have hparb : ((rd_T40 l0 x).f1 == a1) = false := beq_eq_false_iff_ne.2 hpar
   have hkid : kidsTo l0 a1 (x.toNat + 1) = kidsTo l0 a1 x.toNat := by rw [kidsTo, hlt0.out.2.2, if_neg (fun h => hpar h.2)]
   have HK := a_ hkid
   clear hkid hpar
   have HY := a_ (And.intro hY hJd)
   clear hY hJd
   clear hN hBa hBn hC h0
   gi_wp2
   refine wpIn_mono (Q := fun e a w' => e = .normal ∧ ∃ (t7 t8 t9 t10 t11 t12 t13 t14 t15 t16 t17 t18 t19 t20 t21 t22 t23 t24 : Value), a = { tmps := #[.func (.yield l) #[] #[], .pointer (some ⟨Ba, 0, none⟩), .pointer (some ⟨Bn, 0, none⟩), undef, .int .i64 x, .int .i64 a1, .int .i64 (a1 + 1), t7, t8, t9, t10, t11, t12, t13, t14, t15, t16, t17, t18, t19, t20, t21, t22, t23, t24, .bool false], defers := [] } ∧ ∃ nq, w' = wr.drewN nq) ?reg ?post
   case reg =>
    clear HY HK HX HJ hlt0 hw2 hbw hB hw
    refine wpIn_region_quiet_lit rfl hmix (by kernel_rfl) ?_
    iterate 10 (quiet_step_in (fail))
    refine BigFrame.wpQuietIn_skip (fun _ _ _ _ => trivial) (by first | rfl | kernel_rfl | simp [Region.wanted, yielded]) ?_
    simp only [Act.put, List.setIfInBounds_toArray, List.set_cons_succ, List.set_cons_zero]
    iterate 2 (quiet_step_in (fail))
    refine wpQuietIn_nil ?_
    intro _ hw'
    obtain ⟨nq, hw''⟩ := hw'
    subst hw''
    exact ⟨trivial, _, _, _, _, _, _, _, _, _, _, _, _, _, _, _, _, _, _, rfl, _, rfl⟩
   case post =>
    rintro e a W3 ⟨rfl, t7, t8, t9, t10, t11, t12, t13, t14, t15, t16, t17, t18, t19, t20, t21, t22, t23, t24, rfl, nq, rfl⟩
    clear hparb hp
    gi_wp2
    refine ⟨⟨x + 1, by rw [show wrap64 (x + 1) = x + 1 from by have := HX.out; have := hlt0.out.1; unfold wrap64; omega], ⟨by have := HX.out; omega, by have := hlt0.out.1; omega⟩, ⟨by rw [hlt0.out.2.1, HK.out]; exact HY.out.2 _ _ nq HJ.out.1, below_dn HJ.out.2 nq⟩⟩, ?_⟩
    rw [show wrap64 (x + 1) = x + 1 from by have := HX.out; have := hlt0.out.1; unfold wrap64; omega]
    have := HX.out
    have := hlt0.out.1
    simp only [intOf]
    omega
  have hparb : ((rd_T40 l0 x).f1 == a1) = true := beq_iff_eq.2 hpar
  have hkid : kidsTo l0 a1 (x.toNat + 1) = kidsTo l0 a1 x.toNat ++ [x] := by rw [kidsTo, hlt0.out.2.2, if_pos ⟨HX.out.1, hpar⟩]
  have HK := a_ hkid
  clear hkid hpar
  have HY := a_ (fun nq => hY _ x (wr.drewN nq) (hJd _ _ nq HJ.out.1) (hN x.toNat (by have := hlt0.out.1; omega)) ⟨by have := HX.out; omega, hlt0.out.1⟩)
  clear hY hJd hN hBa hBn hC h0
  gi_wp2
  refine wpIn_mono (Q := fun e a w' => e = .normal ∧ ∃ (b : Bool) (t7 t8 t9 t10 t11 t12 t13 t14 t15 t16 t17 t18 t19 t20 t21 t22 t23 t24 : Value), a = { tmps := #[.func (.yield l) #[] #[], .pointer (some ⟨Ba, 0, none⟩), .pointer (some ⟨Bn, 0, none⟩), undef, .int .i64 x, .int .i64 a1, .int .i64 (a1 + 1), t7, t8, t9, t10, t11, t12, t13, t14, t15, t16, t17, t18, t19, t20, t21, t22, t23, t24, .bool (!b)], defers := [] } ∧ Aside0 ((b = true ∧ J (kidsTo l0 a1 x.toNat ++ [x]) w' ∧ Below n₁ wr w') ∨ (b = false ∧ Jx (kidsTo l0 a1 x.toNat ++ [x]) w'))) ?reg ?post
  case reg =>
   clear HK HX HJ hlt0 hw2 hbw hB hw
   refine wpIn_region_head 10 rfl hmix (by kernel_rfl) ?_
   simp only [List.take_succ_cons, List.take_zero, List.drop_succ_cons, List.drop_zero]
   iterate 10 (quiet_step_in (fail))
   refine wpQuietIn_nil ?_
   intro _ hw'
   obtain ⟨nq, hw''⟩ := hw'
   subst hw''
   obtain ⟨fn, tmps, assign, body, hy, hR⟩ := HY.out nq
   clear HY
   have HR : RoundIn Fence.wide (n - 1) Tryd.prog l fn tmps assign body (wr.drewN nq) (fun e W' => ∃ b, e = .returned (.bool b) ∧ Aside0 ((b = true ∧ J (kidsTo l0 a1 x.toNat ++ [x]) W' ∧ Below n₁ wr W') ∨ (b = false ∧ Jx (kidsTo l0 a1 x.toNat ++ [x]) W'))) := hR.mono fun e W' hh => by
    rcases hh with ⟨rfl, h1, h2⟩ | ⟨rfl, h1⟩
    · exact ⟨true, rfl, ⟨.inl ⟨rfl, h1, (below_dn (Below.refl _ _) nq).trans h2⟩⟩⟩
    · exact ⟨false, rfl, ⟨.inr ⟨rfl, h1⟩⟩⟩
   clear hR
   gi_wp2
   refine HR.mono ?_
   rintro e W3 ⟨b, rfl, HQ⟩
   gi_wp2
  case post =>
   rintro e a W3 ⟨rfl, b, t7, t8, t9, t10, t11, t12, t13, t14, t15, t16, t17, t18, t19, t20, t21, t22, t23, t24, rfl, HQ⟩
   clear HY hparb hp
   cases b
   · gi_wp2
     refine bodyPost_ret (results_none rfl _ _ _) rfl ?_
     have hq := HQ.out
     simp only [Bool.false_eq_true, false_and, false_or, true_and] at hq
     exact ⟨⟨_, rfl⟩, .inr ⟨_, by rw [← HK.out]; exact kidsTo_pre _ _ (by have := hlt0.out.1; omega), hq⟩⟩
   · have hq := HQ.out
     simp only [Bool.true_eq_false, false_and, or_false, true_and] at hq
     have HQ2 := a_ hq
     clear hq HQ
     gi_wp2
     refine ⟨⟨x + 1, by rw [show wrap64 (x + 1) = x + 1 from by have := HX.out; have := hlt0.out.1; unfold wrap64; omega], ⟨by have := HX.out; omega, by have := hlt0.out.1; omega⟩, ⟨by rw [hlt0.out.2.1, HK.out]; exact HQ2.out.1, HJ.out.2.trans HQ2.out.2⟩⟩, ?_⟩
     rw [show wrap64 (x + 1) = x + 1 from by have := HX.out; have := hlt0.out.1; unfold wrap64; omega]
     have := HX.out
     have := hlt0.out.1
     simp only [intOf]
     omega
/-- tree.Below: two boxes, a function value -/
theorem tree_Below.in_ (n : Nat) (hn : 1 ≤ n) (A0 : Option Addr) (len c0 : Nat) (a1 : Int) (w : World) :
 CallsIn Fence.wide n Tryd.prog 34 #[.slice A0 len c0, .int .i64 a1] w fun e w' => e = .returned (.func (.func 37) #[] #[.pointer (some ⟨w.heap.size + 1, 0, none⟩), .pointer (some ⟨w.heap.size, 0, none⟩)]) ∧ w' = (w.alloc (.cells #[.slice A0 len c0] 22)).alloc (.cells #[.int .i64 a1] 3) := by
 refine callsIn_of_wp Tryd.func34 rfl trivial ?_ rfl
 simp only [Tryd.ntmps34, List.size_toArray, List.length_cons, List.length_nil, Nat.reduceAdd, Nat.reduceSub, Array.replicate_succ, Array.replicate_zero, List.push_toArray, List.append_toArray, List.nil_append, List.cons_append]
 gi_wp2
 go_ret
 exact ⟨rfl, rfl⟩
theorem tree_Below.stops (n : Nat) (hn : 1 ≤ n) (A0 : Option Addr) (c0 : Nat) (l0 : List S40) (a1 : Int) (ha0 : 0 ≤ a1) (ha1 : a1 < (l0.length : Int)) (hlen : l0.length ≤ 9223372036854775806) (w : World) (hC : Kd.C k40 w A0 l0.length l0) (Bn Ba n₁ : Nat) (hn₁ : n₁ ≤ w.heap.size) (hbn : Bn < n₁) (hba : Ba < n₁)
 (hBn : w.cell? ⟨Bn, 0, none⟩ = some (.slice A0 l0.length c0)) (hBa : w.cell? ⟨Ba, 0, none⟩ = some (.int .i64 a1)) (w0 : World) (hw0 : Below w0.heap.size w0 w) (hC0 : Kd.C k40 w0 A0 l0.length l0) (hn0 : w0.heap.size ≤ n₁) :
 SeqStopsK Fence.wide n Tryd.prog 37 #[.pointer (some ⟨Ba, 0, none⟩), .pointer (some ⟨Bn, 0, none⟩)] (fun x : Int => #[Value.int .i64 x]) (Below n₁) (fun ys => ys = kidsTo l0 a1 l0.length) (fun pre => pre <+: kidsTo l0 a1 l0.length) l0.length w := fun l J Jx W hW hJ hJx hY h0 =>
 tree_Below_1.in_ n hn l Bn Ba n₁ l0.length A0 c0 l0 a1 ha0 ha1 hlen w0 hC0 (fun i hi => Nat.lt_of_le_of_lt (kidsTo_len l0 a1 i) hi) J Jx
  (fun s W1 m h => hJ s W1 (W1.drewN m) none h ⟨rfl, rfl, rfl, Nat.le_refl _, fun _ _ _ => rfl⟩ (fun r e => by cases e)) (fun pre x W1 h1 h2 _ => hY pre x W1 h1 h2) W (hw0.trans (hW.mono hw0.size)) hn0 ((hW.cell (p := ⟨Bn, 0, none⟩) (by show Bn < w.heap.size; omega)).trans hBn) ((hW.cell (p := ⟨Ba, 0, none⟩) (by show Ba < w.heap.size; omega)).trans hBa) hbn hba h0
theorem kidsTo_rng (ns : List S40) (a : Int) (x : Int) : ∀ n : Nat, x ∈ kidsTo ns a n → a < x ∧ x < (n : Int) ∧ (rd_T40 ns x).f1 = a
 | 0, h => by rw [kidsTo] at h; cases h
 | n + 1, h => by
  rw [kidsTo] at h
  by_cases c : a < (n : Int) ∧ (rd_T40 ns (n : Int)).f1 = a
  case neg =>
   rw [if_neg c] at h
   have := kidsTo_rng ns a x n h; exact ⟨this.1, by omega, this.2.2⟩
  rw [if_pos c, List.mem_append, List.mem_singleton] at h
  rcases h with h | h
  · have := kidsTo_rng ns a x n h; exact ⟨this.1, by omega, this.2.2⟩
  · subst h; exact ⟨c.1, by omega, c.2⟩
/-- the same of places that are places: a body may look there -/
theorem tree_Below.stopsF (n : Nat) (hn : 1 ≤ n) (A0 : Option Addr) (c0 : Nat) (l0 : List S40) (a1 : Int) (ha0 : 0 ≤ a1) (ha1 : a1 < (l0.length : Int)) (hlen : l0.length ≤ 9223372036854775806) (w : World) (hC : Kd.C k40 w A0 l0.length l0) (Bn Ba n₁ : Nat) (hn₁ : n₁ ≤ w.heap.size) (hbn : Bn < n₁) (hba : Ba < n₁)
 (hBn : w.cell? ⟨Bn, 0, none⟩ = some (.slice A0 l0.length c0)) (hBa : w.cell? ⟨Ba, 0, none⟩ = some (.int .i64 a1)) (w0 : World) (hw0 : Below w0.heap.size w0 w) (hC0 : Kd.C k40 w0 A0 l0.length l0) (hn0 : w0.heap.size ≤ n₁) :
 SeqStopsK Fence.wide n Tryd.prog 37 #[.pointer (some ⟨Ba, 0, none⟩), .pointer (some ⟨Bn, 0, none⟩)] (fun x : {x : Int // 0 ≤ x ∧ x < (l0.length : Int)} => #[Value.int .i64 x.1]) (Below n₁) (fun ys => ys.map (·.1) = kidsTo l0 a1 l0.length) (fun pre => pre.map (·.1) <+: kidsTo l0 a1 l0.length) l0.length w := fun l J Jx W hW hJ hJx hY h0 => by
 refine (tree_Below_1.in_ n hn l Bn Ba n₁ l0.length A0 c0 l0 a1 ha0 ha1 hlen w0 hC0 (fun i hi => Nat.lt_of_le_of_lt (kidsTo_len l0 a1 i) hi) (fun ys W1 => ∃ zs : List {x : Int // 0 ≤ x ∧ x < (l0.length : Int)}, zs.map (·.1) = ys ∧ J zs W1) (fun ys W1 => ∃ zs : List {x : Int // 0 ≤ x ∧ x < (l0.length : Int)}, zs.map (·.1) = ys ∧ Jx zs W1)
  ?_ ?_ W (hw0.trans (hW.mono hw0.size)) hn0 ((hW.cell (p := ⟨Bn, 0, none⟩) (by show Bn < w.heap.size; omega)).trans hBn) ((hW.cell (p := ⟨Ba, 0, none⟩) (by show Ba < w.heap.size; omega)).trans hBa) hbn hba ⟨[], rfl, h0⟩).mono ?_
 · rintro s W1 m ⟨zs, e, h⟩
   exact ⟨zs, e, hJ zs W1 (W1.drewN m) none h ⟨rfl, rfl, rfl, Nat.le_refl _, fun _ _ _ => rfl⟩ (fun r e => by cases e)⟩
 · rintro pre x W1 ⟨zs, e, h⟩ hl hx
   refine (hY zs ⟨x, hx⟩ W1 h (by rw [← e, List.length_map] at hl; exact hl)).mono ?_
   rintro e' W2 (⟨h1, h2, h3⟩ | ⟨h1, h2⟩)
   · exact .inl ⟨h1, ⟨_, by rw [List.map_append, e]; rfl, h2⟩, h3⟩
   · exact .inr ⟨h1, ⟨_, by rw [List.map_append, e]; rfl, h2⟩⟩
 · rintro e' W2 ⟨hv, ⟨ys, hy, zs, e, h⟩ | ⟨pre, hp, zs, e, h⟩⟩
   · exact ⟨hv, .inl ⟨zs, e.trans hy, h⟩⟩
   · exact ⟨hv, .inr ⟨zs, (show zs.map (fun x => x.1) <+: kidsTo l0 a1 l0.length by rw [e]; exact hp), h⟩⟩
end

set_option maxHeartbeats 8000000
set_option maxRecDepth 100000
attribute [local go_sem] max2_int min2_int max_two min_two max_three min_three max_four min_four   -- for this text's walks alone
set_option linter.unusedVariables false
set_option linter.unusedSimpArgs false

/-- the first of a node's kids with a mark -/
def fstK (ns : List S40) (ms : List Int) (a m : Int) : Option Int := (kidsTo ns a ns.length).find? fun k => rd ms k == m
def top_first.f (l0 : List S40) (l1 : List Int) (a2 a3 : Int) : Option (Int × Bool) :=
 if 0 ≤ a2 ∧ a2 < (l0.length : Int) ∧ l0.length ≤ l1.length ∧ l0.length ≤ 512 then (match fstK l0 l1 a2 a3 with | some k => some (k, true) | none => some (0, false)) else none
theorem bx_four {w : World} {a b c d : Value} {s t u v : TypeId} :
 let w4 := (((w.alloc (.cells #[a] s)).alloc (.cells #[b] t)).alloc (.cells #[c] u)).alloc (.cells #[d] v)
 Boxed w4 w.heap.size s a ∧ Boxed w4 (w.heap.size + 1) t b ∧ Boxed w4 (w.heap.size + 1 + 1) u c ∧ Boxed w4 (w.heap.size + 1 + 1 + 1) v d ∧ Below w.heap.size w w4 ∧ w4.heap.size = w.heap.size + 4 := by
 intro w4
 have h1 := (((Boxed.new w s a).alloc (.cells #[b] t)).alloc (.cells #[c] u)).alloc (.cells #[d] v)
 have h2 := ((Boxed.new (w.alloc (.cells #[a] s)) t b).alloc (.cells #[c] u)).alloc (.cells #[d] v)
 have h3 := (Boxed.new ((w.alloc (.cells #[a] s)).alloc (.cells #[b] t)) u c).alloc (.cells #[d] v)
 have h4 := Boxed.new (((w.alloc (.cells #[a] s)).alloc (.cells #[b] t)).alloc (.cells #[c] u)) v d
 simp only [World.size_alloc] at h2 h3 h4
 have hB : Below w.heap.size w w4 := ((((Below.refl _ w).alloc (Nat.le_refl _) _).alloc (by simp) _).alloc (by simp; omega) _).alloc (by simp; omega) _
 exact ⟨h1, h2, h3, h4, hB, by simp [w4]⟩
theorem boxed_ownT {β : Type} (B b : Nat) (t : TypeId) (v : Value) : OwnFrom B (fun (_ : β) W => Boxed W b t v) := Own.from (boxed_own b t (fun _ => v)) B
theorem find_none_all (l : List Int) (p : Int → Bool) (h : ∀ y ∈ l, p y = false) : l.find? p = none := by
 rw [List.find?_eq_none]
 intro y hy
 rw [h y hy]
 exact Bool.false_ne_true
theorem find_pre (p : Int → Bool) (x : Int) (hx : p x = true) : ∀ (q l : List Int), q ++ [x] <+: l → (∀ y ∈ q, p y = false) → l.find? p = some x
 | [], l, h, _ => by
  obtain ⟨t, rfl⟩ := h
  rw [List.nil_append, List.cons_append, List.find?_cons, hx]
 | y :: q, l, h, hq => by
  cases l with
  | nil => have := List.IsPrefix.length_le h; simp at this
  | cons z l =>
   rw [List.cons_append, List.cons_prefix_cons] at h
   obtain ⟨rfl, h⟩ := h
   rw [List.find?_cons, hq y (List.mem_cons_self ..)]
   exact find_pre p x hx q l h (fun z hz => hq z (List.mem_cons_of_mem _ hz))
theorem first_ends {W w : World} {D : Nat} {tmps : Array Value} {i : Int} {b : Bool} (hK : W.heap[D]? = some (.deferred (some []))) (b0 : Boxed W (w.heap.size + 1 + 1) 3 (.int .i64 i)) (b1 : Boxed W (w.heap.size + 1 + 1 + 1) 4 (.bool b))
 (hB : Below w.heap.size w W) (hD : w.heap.size ≤ D) (h8 : tmps[8]? = some (.pointer (some ⟨w.heap.size + 1 + 1, 0, none⟩))) (h9 : tmps[9]? = some (.pointer (some ⟨w.heap.size + 1 + 1 + 1, 0, none⟩))) :
 bodyPostM Fence.wide 4 Tryd.prog Tryd.f23 (fun e w' => e = .returned (.tuple #[.int .i64 i, .bool b]) ∧ Below w.heap.size w w') .ret { tmps := tmps, defers := [{ target := .collected D, args := #[] }] } W := by
 have e0 := Go.cell_kept b0.cell (grownBy_putObj' _ D (.deferred none)) (fun r e => by cases e; exact ⟨_, hK, rfl⟩)
 have e1 := Go.cell_kept b1.cell (grownBy_putObj' _ D (.deferred none)) (fun r e => by cases e; exact ⟨_, hK, rfl⟩)
 refine ⟨by simp, .inl ⟨_, _, rfl, run_takeDeferred hK, ?_⟩⟩
 refine ⟨.tuple #[.int .i64 i, .bool b], ?_, rfl, hB.trans (belowK_b (w := w) (Nat.le_refl _) W D _ _ hD hK rfl rfl)⟩
 simp [results, Tryd.f23, go_sem, e0, e1, h8, h9]
abbrev KX (n : Nat) := {x : Int // 0 ≤ x ∧ x < (n : Int)}
section
attribute [local go_sem] Oper.semAt_some
theorem top_first.inW (A0 : Option Addr) (c0 : Nat) (l0 : List (S40)) (A1 : Option Addr) (c1 : Nat) (l1 : List Int) (a2 a3 r1 : Int) (r2 : Bool) (w : World) (hr0 : Kd.C k40 w A0 l0.length l0) (hr1 : Kd.C (Kd.int .i64) w A1 l1.length l1) (h0 : 0 ≤ a2) (h1 : a2 < (l0.length : Int)) (hl : l0.length ≤ l1.length) (h512 : l0.length ≤ 512) (hr : (match fstK l0 l1 a2 a3 with | some k => (k, true) | none => (0, false)) = (r1, r2)) :
 CallsIn Fence.wide 4 Tryd.prog 23 #[.slice A0 l0.length c0, .slice A1 l1.length c1, .int .i64 a2, .int .i64 a3] w fun e w' => e = .returned (.tuple #[.int .i64 r1, .bool r2]) ∧ Below w.heap.size w w' := by
 have HR0 := a_ hr0
 have HR1 := a_ hr1
 have HRR := a_ hr
 have HM := a_ (And.intro h0 (And.intro h1 (And.intro hl h512)))
 have hmix : Tryd.prog.follows .mixedOrders = true := by kernel_rfl
 clear hr0 hr1 hr h0 h1 hl h512
 refine callsIn_of_wp_marks Tryd.func23 rfl trivial ?_ rfl
 simp only [Tryd.ntmps23, List.size_toArray, List.length_cons, List.length_nil, Nat.reduceAdd, Nat.reduceSub, Array.replicate_succ, Array.replicate_zero, List.push_toArray, List.append_toArray, List.nil_append, List.cons_append]
 have ff1 : Fence.wide.fn 34 := trivial
 gi_wp2_with (first
  | (gi_at_call 34; refine (tree_Below.in_ _ (by omega) _ _ _ _ _).mono ?_; rintro e w7 ⟨rfl, rfl⟩))
 obtain ⟨bx0, bx1, bx2, bx3, hB4, hs4⟩ := bx_four (w := w) (a := .slice A1 l1.length c1) (b := .int .i64 a3) (c := .int .i64 0) (d := .bool false) (s := 23) (t := 3) (u := 3) (v := 4)
 obtain ⟨w4, hw4⟩ : ∃ w4, (((w.alloc (.cells #[.slice A1 l1.length c1] 23)).alloc (.cells #[.int .i64 a3] 3)).alloc (.cells #[.int .i64 0] 3)).alloc (.cells #[.bool false] 4) = w4 := ⟨_, rfl⟩
 rw [hw4] at bx0 bx1 bx2 bx3 hB4 hs4
 simp only [hw4]
 clear hw4
 obtain ⟨W0, hW0⟩ : ∃ W0, (w4.alloc (.cells #[.slice A0 l0.length c0] 22)).alloc (.cells #[.int .i64 a2] 3) = W0 := ⟨_, rfl⟩
 have bN : Boxed W0 w4.heap.size 22 (.slice A0 l0.length c0) := by rw [← hW0]; exact (Boxed.new w4 22 (.slice A0 l0.length c0)).alloc _
 have bA : Boxed W0 (w4.heap.size + 1) 3 (.int .i64 a2) := by
  have h := Boxed.new (w4.alloc (.cells #[.slice A0 l0.length c0] 22)) 3 (.int .i64 a2)
  rw [hW0, World.size_alloc] at h
  exact h
 have hs0 : W0.heap.size = w4.heap.size + 2 := by rw [← hW0]; simp
 have hB0 : Below w.heap.size w W0 := by rw [← hW0]; exact (hB4.alloc hB4.size _).alloc (by simp; omega) _
 have by0 : Boxed W0 w.heap.size 23 (.slice A1 l1.length c1) := by rw [← hW0]; exact (bx0.alloc _).alloc _
 have by1 : Boxed W0 (w.heap.size + 1) 3 (.int .i64 a3) := by rw [← hW0]; exact (bx1.alloc _).alloc _
 have by2 : Boxed W0 (w.heap.size + 1 + 1) 3 (.int .i64 0) := by rw [← hW0]; exact (bx2.alloc _).alloc _
 have by3 : Boxed W0 (w.heap.size + 1 + 1 + 1) 4 (.bool false) := by rw [← hW0]; exact (bx3.alloc _).alloc _
 clear bx0 bx1 bx2 bx3
 have hn4 : w4.heap.size = w.heap.size + 1 + 1 + 1 + 1 := by omega
 rw [hn4] at bN bA hs0
 rw [hW0]
 clear hW0
 have HW0 := a_ (And.intro hs0 hs4)
 clear hs0 hs4
 refine wpIn_rangeFunc_ownH (n := 4) rfl (by omega) (gf := 37) (lb := #[.pointer (some ⟨w.heap.size + 1 + 1 + 1 + 1 + 1, 0, none⟩), .pointer (some ⟨w.heap.size + 1 + 1 + 1 + 1, 0, none⟩)]) rfl trivial (enters_of Tryd.func37 (by kernel_rfl) rfl)
  (tree_Below.stopsF (4 - 1) (by omega) A0 c0 l0 a2 HM.out.1 HM.out.2.1 (by have := HM.out.2.2.2; omega) W0 (Kd.C_below HR0.out hB0) (w.heap.size + 1 + 1 + 1 + 1) (w.heap.size + 1 + 1 + 1 + 1 + 1) W0.heap.size (Nat.le_refl _) (by have := HW0.out; omega) (by have := HW0.out; omega) bN.cell bA.cell w hB0 HR0.out hB0.size) belowK_t (belowK_b (Nat.le_refl _)) (Below.refl _ _) (fun _ => rfl)
  (fun pre W => (((Boxed W w.heap.size 23 (.slice A1 l1.length c1) ∧ Boxed W (w.heap.size + 1) 3 (.int .i64 a3)) ∧ Boxed W (w.heap.size + 1 + 1) 3 (.int .i64 0)) ∧ Boxed W (w.heap.size + 1 + 1 + 1) 4 (.bool false)) ∧ Below w.heap.size W0 W ∧ (∀ y ∈ pre.map (·.1), (rd l1 y == a3) = false))
  (fun c pre W => c = .ret ∧ ∃ (q : List (KX l0.length)) (x : KX l0.length), pre = q ++ [x] ∧ (rd l1 x.1 == a3) = true ∧ (∀ y ∈ q.map (·.1), (rd l1 y == a3) = false) ∧ (Boxed W (w.heap.size + 1 + 1) 3 (.int .i64 x.1) ∧ Boxed W (w.heap.size + 1 + 1 + 1) 4 (.bool true)) ∧ Below w.heap.size W0 W)
  (OwnFrom.and (OwnFrom.and (OwnFrom.and (OwnFrom.and (boxed_ownT _ _ _ _) (boxed_ownT _ _ _ _)) (boxed_ownT _ _ _ _)) (boxed_ownT _ _ _ _)) (OwnFrom.and (ownFrom_below hB0.size hB0.size) (ownFrom_pure _ _)))
  (fun c s A B row hs hg hr => by
   obtain ⟨h1, q, x, h2, h3, h4, h5, h6⟩ := hs
   exact ⟨h1, q, x, h2, h3, h4, (OwnFrom.and (boxed_ownT (β := Unit) _ _ _ _) (boxed_ownT _ _ _ _)) () A B row h5 hg hr, ownFrom_below (β := Unit) hB0.size hB0.size () A B row h6 hg hr⟩)
  ⟨⟨⟨⟨by0, by1⟩, by2⟩, by3⟩, Below.refl _ _, by simp⟩
  (fun x a' W => a' = { tmps := #[.slice A0 l0.length c0, .slice A1 l1.length c1, .int .i64 a2, .int .i64 a3, undef, .pointer (some ⟨w.heap.size, 0, none⟩), undef, .pointer (some ⟨w.heap.size + 1, 0, none⟩), .pointer (some ⟨w.heap.size + 1 + 1, 0, none⟩), .pointer (some ⟨w.heap.size + 1 + 1 + 1, 0, none⟩), .int .i64 x.1, .slice A0 l0.length c0, .int .i64 a2, .func (.func 37) #[] #[.pointer (some ⟨w.heap.size + 1 + 1 + 1 + 1 + 1, 0, none⟩), .pointer (some ⟨w.heap.size + 1 + 1 + 1 + 1, 0, none⟩)], .int .i64 x.1, undef, undef, undef, undef, undef, undef, undef], defers := [] })
  (fun x a' _ X Y row hs hg hr => hs)
  ?assign ?body ?done ?stop
 case assign =>
  rintro l pre x W K hI hK
  gi_wp2
  exact hK _ _ (KeepsFrom.refl _ _) (Below.refl _ _) hI rfl
 case body =>
  rintro l pre ⟨xv, hv0, hv1⟩ a' W hl ⟨r, hr⟩ ⟨⟨⟨⟨b0, b1⟩, b2⟩, b3⟩, hb, hq⟩ rfl hlt
  dsimp only
  have HQ := a_ (And.intro hq (And.intro hb (And.intro b0 (And.intro b1 (And.intro b2 b3)))))
  have hx1 : xv < (l1.length : Int) := by have := HM.out.2.2.1; omega
  obtain ⟨ad, e0, g0⟩ := Kd.at_int HR1.out xv hv0 hx1
  cases e0
  have hbw := hB0.trans hb
  have g1 := (hbw.cell (World.block_lt_of_cell? w _ g0)).trans g0
  have c0_ := b0.cell
  have c1_ := b1.cell
  have hx0 := eq_true hv0
  have hlx := eq_true hx1
  clear hq hlt hr hb b0 b1 b2 b3 hbw g0 hx1
  obtain ⟨bv, hbv⟩ : ∃ bv, (rd l1 xv == a3) = bv := ⟨_, rfl⟩
  gi_wp2
  refine wpIn_mono (Q := fun e a w' => e = .normal ∧ (∃ (t15 t16 t17 t18 t19 : Value), a = { tmps := #[.slice A0 l0.length c0, .slice (some ad) l1.length c1, .int .i64 a2, .int .i64 a3, undef, .pointer (some ⟨w.heap.size, 0, none⟩), undef, .pointer (some ⟨w.heap.size + 1, 0, none⟩), .pointer (some ⟨w.heap.size + 1 + 1, 0, none⟩), .pointer (some ⟨w.heap.size + 1 + 1 + 1, 0, none⟩), .int .i64 xv, .slice A0 l0.length c0, .int .i64 a2, .func (.func 37) #[] #[.pointer (some ⟨w.heap.size + 1 + 1 + 1 + 1 + 1, 0, none⟩), .pointer (some ⟨w.heap.size + 1 + 1 + 1 + 1, 0, none⟩)], .int .i64 xv, t15, t16, t17, t18, t19, .bool bv, undef], defers := [] }) ∧ ∃ nq, w' = W.drewN nq) ?reg ?post
  case reg =>
   clear HQ HW0 HM HRR
   gi_region_with_o (fail)
   all_goals exact ⟨rfl, ⟨_, _, _, _, _, rfl⟩, _, rfl⟩
  case post =>
   rintro e a W3 ⟨rfl, ⟨t15, t16, t17, t18, t19, rfl⟩, nq, rfl⟩
   clear c0_ c1_ g1 hx0 hlx
   obtain ⟨hq, hb, b0, b1, b2, b3⟩ := HQ.out
   have b2' : Boxed (W.drewN nq) (w.heap.size + 1 + 1) 3 (.int .i64 0) := b2
   have b3' : Boxed (W.drewN nq) (w.heap.size + 1 + 1 + 1) 4 (.bool false) := b3
   have c2_ := b2'.cell
   have c3_ := b3'.cell
   have f2_ := b2'.frozen
   have f3_ := b3'.frozen
   have HP := a_ (And.intro hq (And.intro hb (And.intro b2' b3')))
   have HX := a_ hbv
   have kq : KeepsFrom W0.heap.size W (W.drewN nq) := ⟨Nat.le_refl _, fun k o _ h _ => h⟩
   have HK := a_ kq
   clear hq hb b2 b3 b2' b3' hbv kq
   cases bv
   · gi_wp2
     refine ⟨HK.out, below_dn (Below.refl _ _) nq, ⟨⟨⟨b0, b1⟩, HP.out.2.2.1⟩, HP.out.2.2.2⟩, below_dn HP.out.2.1 nq, ?_⟩
     intro y hy
     rw [List.map_append, List.mem_append] at hy
     rcases hy with hy | hy
     · exact HP.out.1 y hy
     · rw [List.map_cons, List.map_nil, List.mem_singleton] at hy
       subst hy
       exact HX.out
   · gi_wp2
     clear c2_ c3_ f2_ f3_
     refine ⟨HK.out.trans (((KeepsOthers.setCell _ _ _).trans (KeepsOthers.setCell _ _ _)).from _), rfl, pre, ⟨xv, hv0, hv1⟩, rfl, HX.out, HP.out.1, ⟨?_, ?_⟩, ?_⟩
     · exact (HP.out.2.2.1.set _).other (by omega) _
     · exact (HP.out.2.2.2.other (by omega) _).set _
     · exact (((below_dn HP.out.2.1 nq).setCell (p := ⟨w.heap.size + 1 + 1, 0, none⟩) (by show w.heap.size ≤ w.heap.size + 1 + 1; omega) _).setCell (p := ⟨w.heap.size + 1 + 1 + 1, 0, none⟩) (by show w.heap.size ≤ w.heap.size + 1 + 1 + 1; omega) _)
 case done =>
  rintro D ys W hD hS ⟨⟨⟨⟨b0, b1⟩, b2⟩, b3⟩, hb, hq⟩ hK
  have HQ := a_ (And.intro hq (And.intro hb hS))
  clear hq hS
  have c2_ := b2.cell
  have c3_ := b3.cell
  have f2_ := b2.frozen
  have f3_ := b3.frozen
  gi_wp2
  clear c2_ c3_ f2_ f3_
  have hl : fstK l0 l1 a2 a3 = none := find_none_all _ _ (fun y hy => HQ.out.1 y (by rw [HQ.out.2.2]; exact hy))
  have hrr := HRR.out
  rw [hl] at hrr
  obtain ⟨rfl, rfl⟩ := Prod.mk.inj hrr
  exact first_ends (((KeepsOthers.setCell _ _ _).trans (KeepsOthers.setCell _ _ _)).same D _ hK rfl) ((b2.set _).other (by omega) _) ((b3.other (by omega) _).set _)
   (((hB0.trans HQ.out.2.1).setCell (p := ⟨w.heap.size + 1 + 1, 0, none⟩) (by show w.heap.size ≤ w.heap.size + 1 + 1; omega) _).setCell (p := ⟨w.heap.size + 1 + 1 + 1, 0, none⟩) (by show w.heap.size ≤ w.heap.size + 1 + 1 + 1; omega) _) (by have := hB0.size; omega) rfl rfl
 case stop =>
  rintro D c pre W hD hSp ⟨rfl, q, x, h1, h2, h3, ⟨b2, b3⟩, hb⟩ hK
  have HQ := a_ (And.intro hSp (And.intro h1 (And.intro h2 (And.intro h3 hb))))
  clear hSp h1 h2 h3
  have c2_ := b2.cell
  have c3_ := b3.cell
  gi_wp2
  clear c2_ c3_
  obtain ⟨hSp, h1, h2, h3, hb⟩ := HQ.out
  have hl : fstK l0 l1 a2 a3 = some x.1 := find_pre _ x.1 h2 (q.map (·.1)) _ (by rw [h1, List.map_append] at hSp; exact hSp) h3
  have hrr := HRR.out
  rw [hl] at hrr
  obtain ⟨rfl, rfl⟩ := Prod.mk.inj hrr
  exact first_ends hK b2 b3 (hB0.trans hb) (by have := hB0.size; omega) rfl rfl
end
theorem top_first.calls (A0 : Option Addr) (c0 : Nat) (l0 : List (S40)) (A1 : Option Addr) (c1 : Nat) (l1 : List Int) (a2 : Int) (a3 : Int) (r1 : Int) (r2 : Bool) (w : World) (hr0 : Kd.C k40 w A0 l0.length l0) (hc0 : l0.length ≤ c0) (hr1 : Kd.C (Kd.int .i64) w A1 l1.length l1) (hc1 : l1.length ≤ c1) (h : top_first.f l0 l1 a2 a3 = some (r1, r2)) :
 Calls Tryd.prog 23 #[.slice A0 l0.length c0, .slice A1 l1.length c1, .int .i64 a2, .int .i64 a3] w fun e w' => e = .returned (.tuple #[.int .i64 r1, .bool r2]) ∧ Below w.heap.size w w' := by
 unfold top_first.f at h
 by_cases c : 0 ≤ a2 ∧ a2 < (l0.length : Int) ∧ l0.length ≤ l1.length ∧ l0.length ≤ 512
 case neg =>
  rw [if_neg c] at h; cases h

 rw [if_pos c] at h
 refine (callsIn_wide (n := 4)).1 (top_first.inW A0 c0 l0 A1 c1 l1 a2 a3 r1 r2 w hr0 hr1 c.1 c.2.1 c.2.2.1 c.2.2.2 ?_)
 cases hf : fstK l0 l1 a2 a3 with
 | none => rw [hf] at h; exact Option.some.inj h
 | some k => rw [hf] at h; exact Option.some.inj h
set_option maxHeartbeats 8000000
set_option maxRecDepth 100000
attribute [local go_sem] max2_int min2_int max_two min_two max_three min_three max_four min_four   -- for this text's walks alone
set_option linter.unusedVariables false
set_option linter.unusedSimpArgs false

def bugS (ns : List S40) (ms : List Int) (a : Int) : Int × Int := if ((kidsTo ns a ns.length).all fun k => rd ms k == 1) = true then (1, a) else (3, 0)
def top_Bug.f (l0 : List S40) (l1 : List Int) (a2 : Int) : Option (Int × Int) :=
 if 0 ≤ a2 ∧ a2 < (l0.length : Int) ∧ l0.length ≤ l1.length ∧ l0.length ≤ 512 then some (bugS l0 l1 a2) else none
/-- a block of two cells -/
def Boxed2 (W : World) (B : Nat) (t : TypeId) (u v : Value) : Prop := W.heap[B]? = some (.cells #[u, v] t (0, 0))
theorem Boxed2.lt {W : World} {B : Nat} {t : TypeId} {u v : Value} (h : Boxed2 W B t u v) : B < W.heap.size := (Array.getElem?_eq_some_iff.1 h).1
theorem Boxed2.c0 {W : World} {B : Nat} {t : TypeId} {u v : Value} (h : Boxed2 W B t u v) : W.cell? ⟨B, 0, none⟩ = some u := by simp [World.cell?, show W.heap[B]? = _ from h]
theorem Boxed2.c1 {W : World} {B : Nat} {t : TypeId} {u v : Value} (h : Boxed2 W B t u v) : W.cell? ⟨B, 1, none⟩ = some v := by simp [World.cell?, show W.heap[B]? = _ from h]
theorem Boxed2.f0 {W : World} {B : Nat} {t : TypeId} {u v : Value} (h : Boxed2 W B t u v) : W.frozen? ⟨B, 0, none⟩ = false := by simp [World.frozen?, show W.heap[B]? = _ from h]
theorem Boxed2.f1 {W : World} {B : Nat} {t : TypeId} {u v : Value} (h : Boxed2 W B t u v) : W.frozen? ⟨B, 1, none⟩ = false := by simp [World.frozen?, show W.heap[B]? = _ from h]
theorem Boxed2.kept {W W' : World} {row : Option Nat} {B : Nat} {t : TypeId} {u v : Value} (h : Boxed2 W B t u v) (hg : W.grownBy W' row) (hne : some B ≠ row) : Boxed2 W' B t u v := (hg.block B h.lt hne).trans h
theorem Boxed2.new (W : World) (t : TypeId) (u v : Value) : Boxed2 (W.alloc (.cells #[u, v] t)) W.heap.size t u v := World.alloc_heap_new W _
theorem Boxed2.alloc {W : World} {B : Nat} {t : TypeId} {u v : Value} (h : Boxed2 W B t u v) (o : Obj) : Boxed2 (W.alloc o) B t u v := h.kept (World.grownBy_alloc W o none) (by simp)
theorem Boxed2.set0 {W : World} {B : Nat} {t : TypeId} {u v : Value} (h : Boxed2 W B t u v) (a : Value) : Boxed2 (W.setCell ⟨B, 0, none⟩ a) B t a v := by
 obtain ⟨hlt, hk⟩ := Array.getElem?_eq_some_iff.1 h
 show (W.heap.modify B _)[B]? = _
 rw [Array.getElem?_eq_getElem (by rw [Array.size_modify]; exact hlt), Array.getElem_modify_self, hk]
 rfl
theorem Boxed2.set1 {W : World} {B : Nat} {t : TypeId} {u v : Value} (h : Boxed2 W B t u v) (a : Value) : Boxed2 (W.setCell ⟨B, 1, none⟩ a) B t u a := by
 obtain ⟨hlt, hk⟩ := Array.getElem?_eq_some_iff.1 h
 show (W.heap.modify B _)[B]? = _
 rw [Array.getElem?_eq_getElem (by rw [Array.size_modify]; exact hlt), Array.getElem_modify_self, hk]
 rfl
theorem Boxed2.put {W : World} {B : Nat} {t : TypeId} {u v : Value} (h : Boxed2 W B t u v) (a b : Value) : Boxed2 ((W.setCell ⟨B, 0, none⟩ a).setCell ⟨B, 1, none⟩ b) B t a b := (h.set0 a).set1 b
theorem bug_ends {W w : World} {D : Nat} {tmps : Array Value} {i j : Int} (hK : W.heap[D]? = some (.deferred (some []))) (b : Boxed2 W (w.heap.size + 1) 27 (.int .i64 i) (.int .i64 j))
 (hB : Below w.heap.size w W) (hD : w.heap.size ≤ D) (h6 : tmps[6]? = some (.pointer (some ⟨w.heap.size + 1, 0, none⟩))) :
 bodyPostM Fence.wide 4 Tryd.prog Tryd.f24 (fun e w' => e = .returned (.agg #[.int .i64 i, .int .i64 j]) ∧ Below w.heap.size w w') .ret { tmps := tmps, defers := [{ target := .collected D, args := #[] }] } W := by
 have e0 := Go.cell_kept b.c0 (grownBy_putObj' _ D (.deferred none)) (fun r e => by cases e; exact ⟨_, hK, rfl⟩)
 have e1 := Go.cell_kept b.c1 (grownBy_putObj' _ D (.deferred none)) (fun r e => by cases e; exact ⟨_, hK, rfl⟩)
 have hu := Tryd.underlying27
 refine ⟨by simp, .inl ⟨_, _, rfl, run_takeDeferred hK, ?_⟩⟩
 refine ⟨.agg #[.int .i64 i, .int .i64 j], ?_, rfl, hB.trans (belowK_b (w := w) (Nat.le_refl _) W D _ _ hD hK rfl rfl)⟩
 simp [results, Tryd.f24, go_sem, e0, e1, h6]
theorem boxed2_ownT {β : Type} (B0 B : Nat) (t : TypeId) (u v : Value) : OwnFrom B0 (fun (_ : β) W => Boxed2 W B t u v) :=
 Own.from (fun s X Y row hs hg hrow => hs.kept hg (fun e' => by obtain ⟨o, ho, hc⟩ := hrow B e'.symm; rw [show X.heap[B]? = _ from hs] at ho; cases ho; cases hc)) B0
section
attribute [local go_sem] Oper.semAt_some
theorem top_Bug.inW (A0 : Option Addr) (c0 : Nat) (l0 : List (S40)) (A1 : Option Addr) (c1 : Nat) (l1 : List Int) (a2 r1 : Int) (r2 : Int) (w : World) (hr0 : Kd.C k40 w A0 l0.length l0) (hr1 : Kd.C (Kd.int .i64) w A1 l1.length l1) (h0 : 0 ≤ a2) (h1 : a2 < (l0.length : Int)) (hl : l0.length ≤ l1.length) (h512 : l0.length ≤ 512) (hr : bugS l0 l1 a2 = (r1, r2)) :
 CallsIn Fence.wide 4 Tryd.prog 24 #[.slice A0 l0.length c0, .slice A1 l1.length c1, .int .i64 a2] w fun e w' => e = .returned (.agg #[.int .i64 r1, .int .i64 r2]) ∧ Below w.heap.size w w' := by
 have HR0 := a_ hr0
 have HR1 := a_ hr1
 have HRR := a_ hr
 have HM := a_ (And.intro h0 (And.intro h1 (And.intro hl h512)))
 have hmix : Tryd.prog.follows .mixedOrders = true := by kernel_rfl
 have hu := Tryd.underlying27
 clear hr0 hr1 hr h0 h1 hl h512
 refine callsIn_of_wp_marks Tryd.func24 rfl trivial ?_ rfl
 simp only [Tryd.ntmps24, List.size_toArray, List.length_cons, List.length_nil, Nat.reduceAdd, Nat.reduceSub, Array.replicate_succ, Array.replicate_zero, List.push_toArray, List.append_toArray, List.nil_append, List.cons_append]
 have ff1 : Fence.wide.fn 34 := trivial
 gi_wp2_with (first
  | (gi_at_call 34; refine (tree_Below.in_ _ (by omega) _ _ _ _ _).mono ?_; rintro e w7 ⟨rfl, rfl⟩))
 have bx0 := ((Boxed.new w 23 (.slice A1 l1.length c1)).alloc (.cells #[.int .i64 0, .int .i64 0] 27))
 have bx1 := Boxed2.new (w.alloc (.cells #[.slice A1 l1.length c1] 23)) 27 (.int .i64 0) (.int .i64 0)
 obtain ⟨w4, hw4⟩ : ∃ w4, (w.alloc (.cells #[.slice A1 l1.length c1] 23)).alloc (.cells #[.int .i64 0, .int .i64 0] 27) = w4 := ⟨_, rfl⟩
 have hB4 : Below w.heap.size w w4 := by rw [← hw4]; exact ((Below.refl _ w).alloc (Nat.le_refl _) _).alloc (by simp) _
 have hn4 : w4.heap.size = w.heap.size + 1 + 1 := by rw [← hw4]; simp
 rw [hw4] at bx0 bx1
 simp only [World.size_alloc] at bx1
 simp only [hw4]
 clear hw4
 obtain ⟨W0, hW0⟩ : ∃ W0, (w4.alloc (.cells #[.slice A0 l0.length c0] 22)).alloc (.cells #[.int .i64 a2] 3) = W0 := ⟨_, rfl⟩
 have bN : Boxed W0 w4.heap.size 22 (.slice A0 l0.length c0) := by rw [← hW0]; exact (Boxed.new w4 22 (.slice A0 l0.length c0)).alloc _
 have bA : Boxed W0 (w4.heap.size + 1) 3 (.int .i64 a2) := by
  have h := Boxed.new (w4.alloc (.cells #[.slice A0 l0.length c0] 22)) 3 (.int .i64 a2)
  rw [hW0, World.size_alloc] at h
  exact h
 have hs0 : W0.heap.size = w4.heap.size + 2 := by rw [← hW0]; simp
 have hB0 : Below w.heap.size w W0 := by rw [← hW0]; exact (hB4.alloc hB4.size _).alloc (by simp; omega) _
 have by0 : Boxed W0 w.heap.size 23 (.slice A1 l1.length c1) := by rw [← hW0]; exact (bx0.alloc _).alloc _
 have by1 : Boxed2 W0 (w.heap.size + 1) 27 (.int .i64 0) (.int .i64 0) := by rw [← hW0]; exact (bx1.alloc _).alloc _
 clear bx0 bx1
 rw [hn4] at bN bA hs0
 rw [hW0]
 clear hW0
 have HW0 := a_ hs0
 clear hs0
 refine wpIn_rangeFunc_ownH (n := 4) rfl (by omega) (gf := 37) (lb := #[.pointer (some ⟨w.heap.size + 1 + 1 + 1, 0, none⟩), .pointer (some ⟨w.heap.size + 1 + 1, 0, none⟩)]) rfl trivial (enters_of Tryd.func37 (by kernel_rfl) rfl)
  (tree_Below.stopsF (4 - 1) (by omega) A0 c0 l0 a2 HM.out.1 HM.out.2.1 (by have := HM.out.2.2.2; omega) W0 (Kd.C_below HR0.out hB0) (w.heap.size + 1 + 1) (w.heap.size + 1 + 1 + 1) W0.heap.size (Nat.le_refl _) (by have := HW0.out; omega) (by have := HW0.out; omega) bN.cell bA.cell w hB0 HR0.out hB0.size) belowK_t (belowK_b (Nat.le_refl _)) (Below.refl _ _) (fun _ => rfl)
  (fun pre W => (Boxed W w.heap.size 23 (.slice A1 l1.length c1) ∧ Boxed2 W (w.heap.size + 1) 27 (.int .i64 0) (.int .i64 0)) ∧ Below w.heap.size W0 W ∧ (∀ y ∈ pre.map (·.1), (rd l1 y == 1) = true))
  (fun c pre W => c = .ret ∧ ∃ (q : List (KX l0.length)) (x : KX l0.length), pre = q ++ [x] ∧ (rd l1 x.1 == 1) = false ∧ Boxed2 W (w.heap.size + 1) 27 (.int .i64 3) (.int .i64 0) ∧ Below w.heap.size W0 W)
  (OwnFrom.and (OwnFrom.and (boxed_ownT _ _ _ _) (boxed2_ownT _ _ _ _ _)) (OwnFrom.and (ownFrom_below hB0.size hB0.size) (ownFrom_pure _ _)))
  (fun c s A B row hs hg hr => by
   obtain ⟨h1, q, x, h2, h3, h5, h6⟩ := hs
   exact ⟨h1, q, x, h2, h3, (boxed2_ownT (β := Unit) _ _ _ _ _) () A B row h5 hg hr, ownFrom_below (β := Unit) hB0.size hB0.size () A B row h6 hg hr⟩)
  ⟨⟨by0, by1⟩, Below.refl _ _, by simp⟩
  (fun x a' W => a' = { tmps := #[.slice A0 l0.length c0, .slice A1 l1.length c1, .int .i64 a2, undef, .pointer (some ⟨w.heap.size, 0, none⟩), undef, .pointer (some ⟨w.heap.size + 1, 0, none⟩), .int .i64 x.1, .slice A0 l0.length c0, .int .i64 a2, .func (.func 37) #[] #[.pointer (some ⟨w.heap.size + 1 + 1 + 1, 0, none⟩), .pointer (some ⟨w.heap.size + 1 + 1, 0, none⟩)], .int .i64 x.1, undef, undef, undef, undef, undef, undef, undef, undef], defers := [] })
  (fun x a' _ X Y row hs hg hr => hs)
  ?assign ?body ?done ?stop
 case assign =>
  rintro l pre x W K hI hK
  gi_wp2
  exact hK _ _ (KeepsFrom.refl _ _) (Below.refl _ _) hI rfl
 case body =>
  rintro l pre ⟨xv, hv0, hv1⟩ a' W hl ⟨r, hr⟩ ⟨⟨b0, b1⟩, hb, hq⟩ rfl hlt
  dsimp only
  have HQ := a_ (And.intro hq (And.intro hb (And.intro b0 b1)))
  have hx1 : xv < (l1.length : Int) := by have := HM.out.2.2.1; omega
  obtain ⟨ad, e0, g0⟩ := Kd.at_int HR1.out xv hv0 hx1
  cases e0
  have hbw := hB0.trans hb
  have g1 := (hbw.cell (World.block_lt_of_cell? w _ g0)).trans g0
  have c0_ := b0.cell
  have c1_ := b1.c0
  have c2_ := b1.c1
  have f1_ := b1.f0
  have f2_ := b1.f1
  have hx0 := eq_true hv0
  have hlx := eq_true hx1
  clear hq hlt hr hb b0 b1 hbw g0 hx1
  cases hbv : (rd l1 xv == 1) with
  | true =>
   have hne : (rd l1 xv != 1) = false := by rw [bne, hbv]; rfl
   have HX := a_ hbv
   clear hbv
   gi_wp2
   refine ⟨KeepsFrom.refl _ _, Below.refl _ _, HQ.out.2.2, HQ.out.2.1, ?_⟩
   intro y hy
   rw [List.map_append, List.mem_append] at hy
   rcases hy with hy | hy
   · exact HQ.out.1 y hy
   · rw [List.map_cons, List.map_nil, List.mem_singleton] at hy
     subst hy
     exact HX.out
  | false =>
   have hne : (rd l1 xv != 1) = true := by rw [bne, hbv]; rfl
   have HX := a_ hbv
   clear hbv
   gi_wp2
   clear c1_ c2_ f1_ f2_
   exact ⟨((KeepsOthers.setCell _ _ _).trans (KeepsOthers.setCell _ _ _)).from _, rfl, pre, ⟨xv, hv0, hv1⟩, rfl, HX.out, HQ.out.2.2.2.put _ _, (HQ.out.2.1.setCell (p := ⟨w.heap.size + 1, 0, none⟩) (by show w.heap.size ≤ w.heap.size + 1; omega) _).setCell (p := ⟨w.heap.size + 1, 1, none⟩) (by show w.heap.size ≤ w.heap.size + 1; omega) _⟩
 case done =>
  rintro D ys W hD hS ⟨⟨b0, b1⟩, hb, hq⟩ hK
  have HQ := a_ (And.intro hq (And.intro hb hS))
  clear hq hS
  have c1_ := b1.c0
  have c2_ := b1.c1
  have f1_ := b1.f0
  have f2_ := b1.f1
  gi_wp2
  clear c1_ c2_ f1_ f2_
  have hl : bugS l0 l1 a2 = (1, a2) := by
   unfold bugS
   rw [if_pos (List.all_eq_true.2 fun y hy => HQ.out.1 y (by rw [HQ.out.2.2]; exact hy))]
  have hrr := HRR.out
  rw [hl] at hrr
  obtain ⟨rfl, rfl⟩ := Prod.mk.inj hrr
  exact bug_ends (((KeepsOthers.setCell _ _ _).trans (KeepsOthers.setCell _ _ _)).same D _ hK rfl) (b1.put _ _)
   (((hB0.trans HQ.out.2.1).setCell (p := ⟨w.heap.size + 1, 0, none⟩) (by show w.heap.size ≤ w.heap.size + 1; omega) _).setCell (p := ⟨w.heap.size + 1, 1, none⟩) (by show w.heap.size ≤ w.heap.size + 1; omega) _) (by have := hB0.size; omega) rfl
 case stop =>
  rintro D c pre W hD hSp ⟨rfl, q, x, h1, h2, b, hb⟩ hK
  have HQ := a_ (And.intro hSp (And.intro h1 (And.intro h2 hb)))
  clear hSp h1 h2
  gi_wp2
  obtain ⟨hSp, h1, h2, hb⟩ := HQ.out
  have hl : bugS l0 l1 a2 = (3, 0) := by
   unfold bugS
   rw [if_neg]
   intro hall
   have hm : x.1 ∈ kidsTo l0 a2 l0.length := hSp.subset (by rw [h1]; simp)
   have := List.all_eq_true.1 hall x.1 hm
   rw [h2] at this
   exact Bool.false_ne_true this
  have hrr := HRR.out
  rw [hl] at hrr
  obtain ⟨rfl, rfl⟩ := Prod.mk.inj hrr
  exact bug_ends hK b (hB0.trans hb) (by have := hB0.size; omega) rfl
end
theorem top_Bug.calls (A0 : Option Addr) (c0 : Nat) (l0 : List (S40)) (A1 : Option Addr) (c1 : Nat) (l1 : List Int) (a2 : Int) (r1 : Int) (r2 : Int) (w : World) (hr0 : Kd.C k40 w A0 l0.length l0) (hc0 : l0.length ≤ c0) (hr1 : Kd.C (Kd.int .i64) w A1 l1.length l1) (hc1 : l1.length ≤ c1) (h : top_Bug.f l0 l1 a2 = some (r1, r2)) :
 Calls Tryd.prog 24 #[.slice A0 l0.length c0, .slice A1 l1.length c1, .int .i64 a2] w fun e w' => e = .returned (.agg #[.int .i64 r1, .int .i64 r2]) ∧ Below w.heap.size w w' := by
 unfold top_Bug.f at h
 by_cases c : 0 ≤ a2 ∧ a2 < (l0.length : Int) ∧ l0.length ≤ l1.length ∧ l0.length ≤ 512
 case neg =>
  rw [if_neg c] at h; cases h

 rw [if_pos c] at h
 exact (callsIn_wide (n := 4)).1 (top_Bug.inW A0 c0 l0 A1 c1 l1 a2 r1 r2 w hr0 hr1 c.1 c.2.1 c.2.2.1 c.2.2.2 (Option.some.inj h))
end Go.Proofs.YtifhpkakdlfgnaaDoor.G
end
