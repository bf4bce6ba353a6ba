/- Parts of this proof, one behind the other: G32, G33, G34. -/
import Derived.Test.YtifhpkakdlfgnaaGreatDoorU2
import Derived.Test.YtifhpkakdlfgnaaGreatDoorG0
import Derived.Test.YtifhpkakdlfgnaaGreatDoorU8
section
namespace Go.Proofs.YtifhpkakdlfgnaaGreatDoor.G
open Go.RowKit Go.Proofs.YtifhpkakdlfgnaaGreatDoorW.PrintWords Go.Proofs.YtifhpkakdlfgnaaGreatDoorW.PrintLast Go.Proofs.YtifhpkakdlfgnaaGreatDoorW.PrintMore
set_option maxHeartbeats 8000000
set_option maxRecDepth 100000
attribute [local go_sem] max2_int min2_int max_two min_two max_three min_three max_four min_four   -- for this text's walks alone
set_option linter.unusedVariables false
set_option linter.unusedSimpArgs false

def sleuthref12_kids.l0 : Nat → List (S40) → Int → List Int → Int → Option (List Int)
 | 0, _, _, _, _ => none
 | k + 1, x0, x1, x5, x6 => if x6 < (x0.length : Int) then (if 0 ≤ x6 then (if ((rd_T40 x0 x6).f1) = x1 then (if x5.length < 17592186044416 then (sleuthref12_kids.l0 k x0 x1 (x5 ++ [x6]) (wrap64 (x6 + 1))) else (none)) else (sleuthref12_kids.l0 k x0 x1 x5 (wrap64 (x6 + 1)))) else (none)) else (some x5)
def sleuthref12_kids.f (k : Nat) (l0 : List (S40)) (a1 : Int) : Option (List Int) := sleuthref12_kids.l0 k l0 a1 ([] : List Int) 0
theorem sleuthref12_kids.calls (k : Nat) (A0 : Option Addr) (c0 : Nat) (l0 : List (S40)) (a1 : Int) (r : List Int) (w : World) (hr0 : Kd.C k40 w A0 l0.length l0) (hc0 : l0.length ≤ c0) (h : sleuthref12_kids.f k l0 a1 = some r) :
 Calls Tryz.prog 41 #[.slice A0 l0.length c0, .int .i64 a1] w fun e w' => ∃ v0_ : Value, e = .returned (v0_) ∧ Kd.R (Kd.int .i64) 3 w' w.heap.size (fun _ => True) v0_ r ∧ Below w.heap.size w w' := by
 have HR0 := a_ hr0
 have HC0 := a_ hc0
 clear hr0 hc0
 have HB := a_ (Below.refl w.heap.size w)
 have H : (sleuthref12_kids.l0 k l0 a1 ([] : List Int) 0) = some r := h
 clear h
 have H' := a_ H
 clear H
 go_enter Tryz.func41, Tryz.ntmps41
 go_wp2
 go_loopg [5, 6] k (fun kq v5 v6 w' => ∃ (x1 : List Int) (x0 : Int), v6 = .int .i64 x0 ∧ Aside0 (sleuthref12_kids.l0 kq l0 a1 x1 x0 = some r) ∧ Aside0 (kq ≤ k) ∧ Aside0 (Kd.R (Kd.int .i64) 3 w' w.heap.size (fun _ => True) v5 x1) ∧ Aside0 (Below w.heap.size w w'))
 case atStart => exact ⟨(([] : List Int)), (0), hW_, H', ⟨Nat.le_refl _⟩, ⟨by first | exact Kd.R_nil _ _ _ _ _ | exact Kd.N_nil _ _ _ _ _ | exact Kd.V_nil _ _ _ _ _ | exact Kd.Q_nil _ _ _ _ _ | exact Kd.S_nil _ _ _ _ _⟩, ⟨hC_⟩⟩
 case round =>
  clear H'
  try clear p2
  obtain ⟨x1, x0, rfl, HA, HK1, O0, HB⟩ := hrel
  cases gk with
  | zero => exact absurd HA.out (by simp [sleuthref12_kids.l0])
  | succ k1 =>
   have H := HA.out
   clear HA
   simp only [sleuthref12_kids.l0] at H
   by_cases c3 : x0 < (l0.length : Int)
   case neg =>
    rw [if_neg c3] at H
    have c3b0 : decide (x0 < (l0.length : Int)) = false := decide_eq_false c3
    clear c3
    obtain rfl := Option.some.inj H
    go_wp2
    go_ret
    exact ⟨_, hV_, hR_ O0.out, hC_⟩

   rw [if_pos c3] at H
   have c3b0 : decide (x0 < (l0.length : Int)) = true := decide_eq_true c3
   clear c3
   replace H := ifI_ H; obtain ⟨c4, H⟩ := H
   have c4b0 : decide (0 ≤ x0) = true := decide_eq_true c4
   clear c4
   by_cases c5 : ((rd_T40 l0 x0).f1) = a1
   case neg =>
    rw [if_neg c5] at H
    have c5b0 : (((rd_T40 l0 x0).f1) == a1) = false := beq_eq_false_iff_ne.mpr c5
    have c5b1 : (((rd_T40 l0 x0).f1) != a1) = true := bne_iff_ne.mpr c5
    have H' := a_ H
    clear H
    have p299 : 0 ≤ (x0 : Int) := of_decide_eq_true hA_
    have q299 : x0 < (l0.length : Int) := of_decide_eq_true hA_
    obtain ⟨d0, A299_2, c299_2, e299, h0, h1, h2, h3, hl299_2, hi299_2⟩ := at_T40 HR0.out x0 p299 q299
    cases e299
    replace h0 := cl_ HB.out h0
    replace h1 := cl_ HB.out h1
    replace h2 := cl_ HB.out h2
    replace h3 := cl_ HB.out h3
    have HR299_2 := a_ hi299_2
    have HC299_2 := a_ hl299_2
    clear hi299_2 hl299_2
    replace p299 := eq_true p299
    replace q299 := eq_true q299
    go_wp2
    go_roundg k1
    case measure => have := HK1.out; omega
    case rel => exact ⟨(x1), (wrap64 (x0 + 1)), hW_, H', ⟨by have := HK1.out; omega⟩, ⟨hR_ O0.out⟩, ⟨hC_⟩⟩
   rw [if_pos c5] at H
   have c5b0 : (((rd_T40 l0 x0).f1) == a1) = true := beq_iff_eq.mpr c5
   have c5b1 : (((rd_T40 l0 x0).f1) != a1) = false := bne_eq_false_iff_eq.mpr c5
   clear c5
   replace H := ifI_ H; obtain ⟨c6, H⟩ := H
   have LMc6 := a_ c6
   clear c6
   obtain ⟨y0, i0⟩ : ∃ y_ : List Int, y_ = (x1 ++ [x0]) := ⟨_, rfl⟩
   replace H : (sleuthref12_kids.l0 k1 l0 a1 y0 (wrap64 (x0 + 1))) = some r := by first | (rw [i0]; with_reducible exact H) | (have H2_ := (Option.bind_some _ _).symm.trans H; rw [i0]; with_reducible exact H2_) | (have H2_ := (Option.bind_some _ _).symm.trans H; with_reducible exact H2_) | with_reducible exact H | (rw [i0]; exact H) | exact H
   have Y0 := a_ i0
   clear i0
   have H' := a_ H
   clear H
   have p299 : 0 ≤ (x0 : Int) := of_decide_eq_true hA_
   have q299 : x0 < (l0.length : Int) := of_decide_eq_true hA_
   obtain ⟨d0, A299_2, c299_2, e299, h0, h1, h2, h3, hl299_2, hi299_2⟩ := at_T40 HR0.out x0 p299 q299
   cases e299
   replace h0 := cl_ HB.out h0
   replace h1 := cl_ HB.out h1
   replace h2 := cl_ HB.out h2
   replace h3 := cl_ HB.out h3
   have HR299_2 := a_ hi299_2
   have HC299_2 := a_ hl299_2
   clear hi299_2 hl299_2
   replace p299 := eq_true p299
   replace q299 := eq_true q299
   go_wp2_with (first | ((with_reducible refine gate_builtin (b := .append) (xs := #[.tmp 20, .tmp 22]) rfl ?_); at_builtin; refine Kd.R_append (Kd.int .i64) (w0 := w) w.heap.size rfl (.tmp 20) (.tmp 22) 23 3 (.int .i64 0) 8 rfl Tryz.underlying23 info3 rfl (by decide) (by omega) u5 x1 x0 [.int .i64 x0] (fun _ => True) (fun _ => False) rfl rfl ?aP (fun _ hk => hk.elim) ?aF ?aO ?aB ?aS ?aL ?_; (case aP => exact rfl); (case aB => exact hB_); (case aF => exact (fun _ _ => trivial)); (case aO => exact (hR_ O0.out)); (case aS => exact hS_); (case aL => have := LMc6.out; omega); intro v0 w7 ho hb hg hat; rw [← Y0.out] at ho; replace HB := a_ (hb); have P0 := a_ (ho); clear O0; clear ho hb hg hat))
   go_roundg k1
   case measure => have := HK1.out; omega
   case rel => exact ⟨(y0), (wrap64 (x0 + 1)), hW_, H', ⟨by have := HK1.out; omega⟩, ⟨hR_ P0.out⟩, ⟨hC_⟩⟩
def sleuthref12_verdict.l0 : Nat → List Int → Int → List Int → Int → Option (Int × Int)
 | 0, _, _, _, _ => none
 | k + 1, x1, x2, x7, x8 => if x8 < (x7.length : Int) then (if 0 ≤ x8 then (if 0 ≤ (rd x7 x8) then (if (rd x7 x8) < (x1.length : Int) then (if (rd x1 (rd x7 x8)) = 1 then (sleuthref12_verdict.l0 k x1 x2 x7 (wrap64 (x8 + 1))) else (some (3, 0))) else (none)) else (none)) else (none)) else (some (1, x2))
def sleuthref12_verdict.f (k : Nat) (l0 : List (S40)) (l1 : List Int) (a2 : Int) : Option (Int × Int) := (sleuthref12_kids.f k l0 a2).bind fun t304 => (sleuthref12_verdict.l0 k l1 a2 t304 0)
theorem sleuthref12_verdict.calls (k : Nat) (A0 : Option Addr) (c0 : Nat) (l0 : List (S40)) (A1 : Option Addr) (c1 : Nat) (l1 : List Int) (a2 : Int) (r1 : Int) (r2 : Int) (w : World) (hr0 : Kd.C k40 w A0 l0.length l0) (hc0 : l0.length ≤ c0) (hr1 : Kd.C (Kd.int .i64) w A1 l1.length l1) (hc1 : l1.length ≤ c1) (h : sleuthref12_verdict.f k l0 l1 a2 = some (r1, r2)) :
 Calls Tryz.prog 34 #[.slice A0 l0.length c0, .slice A1 l1.length c1, .int .i64 a2] w fun e w' => e = .returned (.agg #[.int .i64 r1, .int .i64 r2]) ∧ Below w.heap.size w w' := by
 have hu27 := Tryz.underlying27
 have HR0 := a_ hr0
 have HC0 := a_ hc0
 clear hr0 hc0
 have HR1 := a_ hr1
 have HC1 := a_ hc1
 clear hr1 hc1
 have HB := a_ (Below.refl w.heap.size w)
 have H := h; unfold sleuthref12_verdict.f at H
 clear h
 replace H := Option.bind_eq_some_iff.mp H
 obtain ⟨t0, A40, H⟩ := H
 try dsimp only at H
 have A4 := a_ A40
 clear A40
 have H' := a_ H
 clear H
 go_enter Tryz.func34, Tryz.ntmps34
 go_wp2_with (first | ((with_reducible refine gate_dst (N := 6) rfl ?_); refine boxE_ 6 #[.int .i64 0, .int .i64 0] 27 ?_; intro g0 hg w5 hbox hb; have B0 := a_ (hbox); have E0 := a_ ((gE_ hg : w.heap.size ≤ g0)); replace HB := a_ (below_step hB_ hb); clear hb hbox hg) | ((with_reducible refine gate_callee (f := 41) rfl ?_); refine goesL_ (some 11) rfl rfl Tryz.func41 (by kernel_rfl) rfl #[.slice A0 l0.length c0, .int .i64 a2] rfl hL_ ?_; (with_reducible refine (sleuthref12_kids.calls k _ _ l0 a2 t0 _ ?s1 ?s2 A4.out).mono ?_); (case s1 => exact cB_ HR0.out); (case s2 => exact HC0.out); rintro e w6 ⟨v0, rfl, ho0, hb⟩; refine ⟨_, rfl, ?_⟩; have P0 := a_ (Kd.R_lower ho0 (below_size hC_)); replace B0 := a_ (bB_ B0.out hb); replace HB := a_ (below_step hC_ hb); (try clear hb); (try clear hb2); (try clear hk); (try clear hi); (try clear ho0)))
 (try simp only [Act.put, List.setIfInBounds_toArray, List.set_cons_zero, List.set_cons_succ])
 go_loopg [8] k (fun kq v8 w' => ∃ (x0 : Int) (x1 : Int) (x2 : Int), v8 = .int .i64 x0 ∧ Aside0 (sleuthref12_verdict.l0 kq l1 a2 t0 x0 = some (r1, r2)) ∧ Aside0 (kq ≤ k) ∧ Aside0 (Kd.R (Kd.int .i64) 3 w' w.heap.size (fun _ => True) v0 t0) ∧ Aside0 (w'.heap[g0]? = some (.cells #[.int .i64 x1, .int .i64 x2] 27 (0, 0))) ∧ Aside0 (Below w.heap.size w w'))
 case atStart => exact ⟨(0), (0), (0), hW_, H', ⟨Nat.le_refl _⟩, ⟨hR_ P0.out⟩, ⟨(hK_ B0.out)⟩, ⟨hC_⟩⟩
 case round =>
  clear H'
  try clear c1
  try clear p2
  try clear c3
  try clear c4
  obtain ⟨x0, x1, x2, rfl, HA, HK1, O0, B0, HB⟩ := hrel
  cases gk with
  | zero => exact absurd HA.out (by simp [sleuthref12_verdict.l0])
  | succ k1 =>
   have H := HA.out
   clear HA
   simp only [sleuthref12_verdict.l0] at H
   by_cases c7 : x0 < (t0.length : Int)
   case neg =>
    rw [if_neg c7] at H
    have c7b0 : decide (x0 < (t0.length : Int)) = false := decide_eq_false c7
    clear c7
    simp only [Option.some.injEq, Prod.mk.injEq] at H
    obtain ⟨rfl, rfl⟩ := H
    obtain ⟨a0, o0, e0⟩ := Kd.R_slice O0.out
    subst e0
    obtain ⟨z0, z1, f0, f1⟩ := bx2_ B0.out
    go_wp2
    refine bodyPost_ret (results_cell_row rfl _ _ g0 27 #[.int .i64 1, .int .i64 a2] (0, 0) _ rfl (bP_ (bP_ (hK_ B0.out))) Tryz.underlying27 rfl (by kernel_rfl)) rfl ?_
    exact ⟨hV_, hC_⟩

   rw [if_pos c7] at H
   have c7b0 : decide (x0 < (t0.length : Int)) = true := decide_eq_true c7
   clear c7
   replace H := ifI_ H; obtain ⟨c8, H⟩ := H
   have c8b0 : decide (0 ≤ x0) = true := decide_eq_true c8
   clear c8
   replace H := ifI_ H; obtain ⟨c9, H⟩ := H
   have c9b0 : decide (0 ≤ (rd t0 x0)) = true := decide_eq_true c9
   clear c9
   replace H := ifI_ H; obtain ⟨c10, H⟩ := H
   have c10b0 : decide ((rd t0 x0) < (l1.length : Int)) = true := decide_eq_true c10
   clear c10
   by_cases c11 : (rd l1 (rd t0 x0)) = 1
   case pos =>
    rw [if_pos c11] at H
    have c11b0 : ((rd l1 (rd t0 x0)) == 1) = true := beq_iff_eq.mpr c11
    have c11b1 : ((rd l1 (rd t0 x0)) != 1) = false := bne_eq_false_iff_eq.mpr c11
    clear c11
    have H' := a_ H
    clear H
    obtain ⟨a1, o1, e1⟩ := Kd.R_slice O0.out
    subst e1
    have p307 : 0 ≤ (x0 : Int) := of_decide_eq_true hA_
    have q307 : x0 < (t0.length : Int) := of_decide_eq_true hA_
    obtain ⟨d0, e307, h1⟩ := Kd.at_int (Kd.R_reads' O0.out).2.2 x0 p307 q307
    cases e307
    replace p307 := eq_true p307
    replace q307 := eq_true q307
    have p308 : 0 ≤ ((rd t0 x0) : Int) := of_decide_eq_true hA_
    have q308 : (rd t0 x0) < (l1.length : Int) := of_decide_eq_true hA_
    obtain ⟨d1, e308, h0⟩ := Kd.at_int HR1.out (rd t0 x0) p308 q308
    cases e308
    replace h0 := cl_ HB.out h0
    replace p308 := eq_true p308
    replace q308 := eq_true q308
    go_wp2
    go_roundg k1
    case measure => have := HK1.out; omega
    case rel => exact ⟨(wrap64 (x0 + 1)), (x1), (x2), hW_, H', ⟨by have := HK1.out; omega⟩, ⟨hR_ O0.out⟩, ⟨(hK_ B0.out)⟩, ⟨hC_⟩⟩
   rw [if_neg c11] at H
   have c11b0 : ((rd l1 (rd t0 x0)) == 1) = false := beq_eq_false_iff_ne.mpr c11
   have c11b1 : ((rd l1 (rd t0 x0)) != 1) = true := bne_iff_ne.mpr c11
   simp only [Option.some.injEq, Prod.mk.injEq] at H
   obtain ⟨rfl, rfl⟩ := H
   obtain ⟨a3, o2, e2⟩ := Kd.R_slice O0.out
   subst e2
   have p307 : 0 ≤ (x0 : Int) := of_decide_eq_true hA_
   have q307 : x0 < (t0.length : Int) := of_decide_eq_true hA_
   obtain ⟨d0, e307, h1⟩ := Kd.at_int (Kd.R_reads' O0.out).2.2 x0 p307 q307
   cases e307
   replace p307 := eq_true p307
   replace q307 := eq_true q307
   have p308 : 0 ≤ ((rd t0 x0) : Int) := of_decide_eq_true hA_
   have q308 : (rd t0 x0) < (l1.length : Int) := of_decide_eq_true hA_
   obtain ⟨d1, e308, h0⟩ := Kd.at_int HR1.out (rd t0 x0) p308 q308
   cases e308
   replace h0 := cl_ HB.out h0
   replace p308 := eq_true p308
   replace q308 := eq_true q308
   obtain ⟨z2, z3, f2, f3⟩ := bx2_ B0.out
   go_wp2
   refine bodyPost_ret (results_cell_row rfl _ _ g0 27 #[.int .i64 3, .int .i64 0] (0, 0) _ rfl (bP_ (bP_ (hK_ B0.out))) Tryz.underlying27 rfl (by kernel_rfl)) rfl ?_
   exact ⟨hV_, hC_⟩
set_option maxHeartbeats 8000000
set_option maxRecDepth 100000
attribute [local go_sem] max2_int min2_int max_two min_two max_three min_three max_four min_four   -- for this text's walks alone
set_option linter.unusedVariables false
set_option linter.unusedSimpArgs false

mutual
def sleuthref12_byHalves.l0 : Nat → List (S40) → List Int → Int → Int → Option (Int × Int)
 | 0, _, _, _, _ => none
 | k + 1, x0, x1, x5, x6 => if x6 < (x0.length : Int) then (if 0 ≤ x6 then (if x6 < (x1.length : Int) then (if (rd x1 x6) = 2 then (sleuthref12_byHalves.l0 k x0 x1 x6 (wrap64 (x6 + 1))) else (sleuthref12_byHalves.l0 k x0 x1 x5 (wrap64 (x6 + 1)))) else (none)) else (none)) else (if 0 ≤ (x0.length : Int) then (if ((x0.length : Int) : Int).toNat ≤ 281474976710656 then (if ((x0.length : Int) : Int).toNat ≤ 35184372088832 then (sleuthref12_byHalves.l1 k x0 x1 x5 (List.replicate ((x0.length : Int) : Int).toNat false) (List.replicate ((x0.length : Int) : Int).toNat 0) 0 (wrap64 (x5 + 1))) else (none)) else (none)) else (none))
def sleuthref12_byHalves.l1 : Nat → List (S40) → List Int → Int → List Bool → List Int → Int → Int → Option (Int × Int)
 | 0, _, _, _, _, _, _, _ => none
 | k + 1, x0, x1, x5, x7, x8, x9, x10 => if x10 < (x0.length : Int) then (if 0 ≤ x10 then (if ((rd_T40 x0 x10).f1) = x5 then (if x10 < (x1.length : Int) then (if x10 < (x7.length : Int) then ((some (x7.set (x10 : Int).toNat ((rd x1 x10) != 1) : List Bool)).bind fun y323 => (if rdOf false y323 x10 = true then (if (rd x1 x10) = 0 then (if x10 < (x8.length : Int) then (sleuthref12_byHalves.l1 k x0 x1 x5 y323 (x8.set (x10 : Int).toNat 1) (wrap64 (x9 + 1)) (wrap64 (x10 + 1))) else (none)) else (sleuthref12_byHalves.l1 k x0 x1 x5 y323 x8 x9 (wrap64 (x10 + 1)))) else (sleuthref12_byHalves.l1 k x0 x1 x5 y323 x8 x9 (wrap64 (x10 + 1))))) else (none)) else (none)) else (if 0 ≤ ((rd_T40 x0 x10).f1) then (if ((rd_T40 x0 x10).f1) < (x7.length : Int) then (if rdOf false x7 ((rd_T40 x0 x10).f1) = true then (if x10 < (x1.length : Int) then (if x10 < (x7.length : Int) then ((some (x7.set (x10 : Int).toNat ((rd x1 x10) != 1) : List Bool)).bind fun y329 => (if rdOf false y329 x10 = true then (if (rd x1 x10) = 0 then (if x10 < (x8.length : Int) then (sleuthref12_byHalves.l1 k x0 x1 x5 y329 (x8.set (x10 : Int).toNat 1) (wrap64 (x9 + 1)) (wrap64 (x10 + 1))) else (none)) else (sleuthref12_byHalves.l1 k x0 x1 x5 y329 x8 x9 (wrap64 (x10 + 1)))) else (sleuthref12_byHalves.l1 k x0 x1 x5 y329 x8 x9 (wrap64 (x10 + 1))))) else (none)) else (none)) else (if x10 < (x7.length : Int) then ((some (x7.set (x10 : Int).toNat false : List Bool)).bind fun y333 => (if rdOf false y333 x10 = true then (if x10 < (x1.length : Int) then (if (rd x1 x10) = 0 then (if x10 < (x8.length : Int) then (sleuthref12_byHalves.l1 k x0 x1 x5 y333 (x8.set (x10 : Int).toNat 1) (wrap64 (x9 + 1)) (wrap64 (x10 + 1))) else (none)) else (sleuthref12_byHalves.l1 k x0 x1 x5 y333 x8 x9 (wrap64 (x10 + 1)))) else (none)) else (sleuthref12_byHalves.l1 k x0 x1 x5 y333 x8 x9 (wrap64 (x10 + 1))))) else (none))) else (none)) else (none))) else (none)) else (sleuthref12_byHalves.l2 k x0 x1 x5 x7 x8 x9 (wrap64 ((x0.length : Int) - 1)))
def sleuthref12_byHalves.l2 : Nat → List (S40) → List Int → Int → List Bool → List Int → Int → Int → Option (Int × Int)
 | 0, _, _, _, _, _, _, _ => none
 | k + 1, x0, x1, x5, x7, x8, x9, x12 => if x12 > x5 then (if 0 ≤ x12 then (if x12 < (x7.length : Int) then (if rdOf false x7 x12 = true then (if x12 < (x0.length : Int) then (if ((rd_T40 x0 x12).f1) > x5 then (if 0 ≤ ((rd_T40 x0 x12).f1) then (if ((rd_T40 x0 x12).f1) < (x8.length : Int) then (if x12 < (x8.length : Int) then (sleuthref12_byHalves.l2 k x0 x1 x5 x7 (x8.set (((rd_T40 x0 x12).f1) : Int).toNat (wrap64 ((rd x8 ((rd_T40 x0 x12).f1)) + (rd x8 x12)))) x9 (wrap64 (x12 - 1))) else (none)) else (none)) else (none)) else (sleuthref12_byHalves.l2 k x0 x1 x5 x7 x8 x9 (wrap64 (x12 - 1)))) else (none)) else (sleuthref12_byHalves.l2 k x0 x1 x5 x7 x8 x9 (wrap64 (x12 - 1)))) else (none)) else (none)) else (sleuthref12_byHalves.l3 k x0 x1 x5 x7 x8 x9 (-1) 0 (wrap64 (x5 + 1)))
def sleuthref12_byHalves.l3 : Nat → List (S40) → List Int → Int → List Bool → List Int → Int → Int → Int → Int → Option (Int × Int)
 | 0, _, _, _, _, _, _, _, _, _ => none
 | k + 1, x0, x1, x5, x7, x8, x9, x13, x14, x15 => if x15 < (x0.length : Int) then (if 0 ≤ x15 then (if x15 < (x7.length : Int) then (if rdOf false x7 x15 = true then (if x15 < (x1.length : Int) then (sleuthref12_byHalves.j4 k x0 x1 x5 x7 x8 x9 x13 x14 x15 ((rd x1 x15) != 0)) else (none)) else (sleuthref12_byHalves.j4 k x0 x1 x5 x7 x8 x9 x13 x14 x15 true)) else (none)) else (none)) else (if x13 ≥ 0 then (some (0, x13)) else ((sleuthref12_verdict.f k x0 x1 x5).bind fun bt344 => (some (bt344.1, bt344.2))))
def sleuthref12_byHalves.j4 : Nat → List (S40) → List Int → Int → List Bool → List Int → Int → Int → Int → Int → Bool → Option (Int × Int)
 | 0, _, _, _, _, _, _, _, _, _, _ => none
 | k + 1, x0, x1, x5, x7, x8, x9, x13, x14, x15, x151 => if x151 = true then (sleuthref12_byHalves.l3 k x0 x1 x5 x7 x8 x9 x13 x14 (wrap64 (x15 + 1))) else (if 0 ≤ x15 then (if x15 < (x8.length : Int) then (if x13 < 0 then (sleuthref12_byHalves.l3 k x0 x1 x5 x7 x8 x9 x15 (mx (wrap64 ((wrap64 (2 * (rd x8 x15))) - x9)) (wrap64 (x9 - (wrap64 (2 * (rd x8 x15)))))) (wrap64 (x15 + 1))) else (if (mx (wrap64 ((wrap64 (2 * (rd x8 x15))) - x9)) (wrap64 (x9 - (wrap64 (2 * (rd x8 x15)))))) < x14 then (sleuthref12_byHalves.l3 k x0 x1 x5 x7 x8 x9 x15 (mx (wrap64 ((wrap64 (2 * (rd x8 x15))) - x9)) (wrap64 (x9 - (wrap64 (2 * (rd x8 x15)))))) (wrap64 (x15 + 1))) else (sleuthref12_byHalves.l3 k x0 x1 x5 x7 x8 x9 x13 x14 (wrap64 (x15 + 1))))) else (none)) else (none))
end
def sleuthref12_byHalves.f (k : Nat) (l0 : List (S40)) (l1 : List Int) : Option (Int × Int) := if 0 < (l1.length : Int) then (if (rd l1 0) = 2 then (sleuthref12_byHalves.l0 k l0 l1 0 0) else ((sleuthref12_rooted.f (rd l1 0)).bind fun bt312 => (some (bt312.1, bt312.2)))) else (none)
def sleuthref12_byHalves.T24 : Bool × List (List Nat × List Nat) := (true, [([], []), ([], []), ([], []), ([1, 2], [1, 2]), ([3], [3]), ([4], [4]), ([], []), ([], []), ([], []), ([7, 8], [7, 8]), ([9], [9]), ([10], [10]), ([6, 11], [6, 11]), ([12], [12]), ([], []), ([], []), ([14, 15], [14, 15]), ([16], [16]), ([13, 17], [13, 17]), ([0, 5, 0, 1, 2, 3, 4, 5, 6, 7, 8, 9, 10, 11, 12, 13, 14, 15, 16, 17, 18], [0, 5]), ([19, 18, 0, 1, 2, 3, 4, 5, 6, 7, 8, 9, 10, 11, 12, 13, 14, 15, 16, 17, 18], [18, 19])])
def sleuthref12_byHalves.B24 : List Nat := [0, 0, 0, 6, 14, 30, 0, 0, 0, 384, 896, 1920, 4032, 8128, 0, 0, 49152, 114688, 262080, 524287, 1048575]
theorem sleuthref12_byHalves.tab24 : rtab .any (opsOf Tryz.f16 24) = sleuthref12_byHalves.T24 := by kernel_rfl
theorem sleuthref12_byHalves.bits24 : waitsOk sleuthref12_byHalves.T24.2 sleuthref12_byHalves.B24 = true := by kernel_rfl
def sleuthref12_byHalves.T30 : Bool × List (List Nat × List Nat) := (true, [([], []), ([], []), ([0, 1], [0, 1]), ([2], [2]), ([3], [3]), ([], []), ([4, 5], [4, 5]), ([], []), ([], []), ([], []), ([8, 9], [8, 9]), ([10], [10]), ([11], [11]), ([7, 12], [7, 12]), ([6, 13], [6, 13]), ([14, 0, 1, 2, 3, 4, 5, 6, 7, 8, 9, 10, 11, 12, 13, 14], [14])])
def sleuthref12_byHalves.B30 : List Nat := [0, 0, 3, 7, 15, 0, 63, 0, 0, 0, 768, 1792, 3840, 8064, 16383, 32767]
theorem sleuthref12_byHalves.tab30 : rtab .any (opsOf Tryz.f16 30) = sleuthref12_byHalves.T30 := by kernel_rfl
theorem sleuthref12_byHalves.bits30 : waitsOk sleuthref12_byHalves.T30.2 sleuthref12_byHalves.B30 = true := by kernel_rfl
theorem sleuthref12_byHalves.calls (k : Nat) (A0 : Option Addr) (c0 : Nat) (l0 : List (S40)) (A1 : Option Addr) (c1 : Nat) (l1 : List Int) (r1 : Int) (r2 : Int) (w : World) (hr0 : Kd.C k40 w A0 l0.length l0) (hc0 : l0.length ≤ c0) (hr1 : Kd.C (Kd.int .i64) w A1 l1.length l1) (hc1 : l1.length ≤ c1) (h : sleuthref12_byHalves.f k l0 l1 = some (r1, r2)) :
 Calls Tryz.prog 16 #[.slice A0 l0.length c0, .slice A1 l1.length c1] w fun e w' => e = .returned (.agg #[.int .i64 r1, .int .i64 r2]) ∧ Below w.heap.size w w' := by
 have hu27 := Tryz.underlying27
 have HR0 := a_ hr0
 have HC0 := a_ hc0
 clear hr0 hc0
 have HR1 := a_ hr1
 have HC1 := a_ hc1
 clear hr1 hc1
 have HB := a_ (Below.refl w.heap.size w)
 have H := h; unfold sleuthref12_byHalves.f at H
 clear h
 replace H := ifI_ H; obtain ⟨c3, H⟩ := H
 have c3b0 : decide (0 < (l1.length : Int)) = true := decide_eq_true c3
 have c3b1 : decide (0 < l1.length) = true := decide_eq_true (by omega)
 clear c3
 by_cases c4 : (rd l1 0) = 2
 case neg =>
  rw [if_neg c4] at H
  have c4b0 : ((rd l1 0) == 2) = false := beq_eq_false_iff_ne.mpr c4
  have c4b1 : ((rd l1 0) != 2) = true := bne_iff_ne.mpr c4
  replace H := Option.bind_eq_some_iff.mp H
  obtain ⟨⟨t0, t1⟩, A1210, H⟩ := H
  try dsimp only at H
  have A121 := a_ A1210
  clear A1210
  simp only [Option.some.injEq, Prod.mk.injEq] at H
  obtain ⟨rfl, rfl⟩ := H
  go_enter Tryz.func16, Tryz.ntmps16
  go_wp2_with (first | ((with_reducible refine gate_dst (N := 4) rfl ?_); refine boxE_ 4 #[.int .i64 0, .int .i64 0] 27 ?_; intro g0 hg w10 hbox hb; have B0 := a_ (hbox); have E0 := a_ ((gE_ hg : w.heap.size ≤ g0)); replace HB := a_ (below_step hB_ hb); clear hb hbox hg; have p310 : 0 ≤ (0 : Int) := (by omega); have q310 : 0 < (l1.length : Int) := of_decide_eq_true hA_; obtain ⟨d0, e310, h8⟩ := Kd.at_int HR1.out 0 p310 q310; cases e310; have qi310 : (0 < l1.length) = True := eq_true (by omega); (try rw [show ((0 : Int)).toNat = 0 from rfl] at h8); (try rw [Addr.add_zero'] at h8); replace h8 := cl_ HB.out h8; replace p310 := eq_true p310; replace q310 := eq_true q310; have p311 : 0 ≤ (0 : Int) := (by omega); have q311 : 0 < (l1.length : Int) := of_decide_eq_true hA_; obtain ⟨d16, e311, h35⟩ := Kd.at_int HR1.out 0 p311 q311; obtain rfl : d0 = d16 := (by injection e311); have qi311 : (0 < l1.length) = True := eq_true (by omega); (try rw [show ((0 : Int)).toNat = 0 from rfl] at h35); (try rw [Addr.add_zero'] at h35); replace h35 := cl_ HB.out h35; replace p311 := eq_true p311; replace q311 := eq_true q311) | ((with_reducible refine gate_callee (f := 33) rfl ?_); refine goesL_ (some 24) rfl rfl Tryz.func33 (by kernel_rfl) rfl #[.int .i64 (rd l1 0)] rfl hL_ ?_; (with_reducible refine (sleuthref12_rooted.calls (rd l1 0) t0 t1 _ A121.out).mono ?_); rintro e w11 ⟨rfl, hb⟩; refine ⟨_, rfl, ?_⟩; replace B0 := a_ (bB_ B0.out hb); replace HB := a_ (below_step hC_ hb); (try clear hb); (try clear hb2); (try clear hk); (try clear hi); obtain ⟨z0, z1, f4, f5⟩ := bx2_ B0.out))
  refine bodyPost_ret (results_cell_row rfl _ _ g0 27 #[.int .i64 t0, .int .i64 t1] (0, 0) _ rfl (bP_ (bP_ (hK_ B0.out))) Tryz.underlying27 rfl (by kernel_rfl)) rfl ?_
  exact ⟨hV_, hC_⟩
 rw [if_pos c4] at H
 have c4b0 : ((rd l1 0) == 2) = true := beq_iff_eq.mpr c4
 have c4b1 : ((rd l1 0) != 2) = false := bne_eq_false_iff_eq.mpr c4
 clear c4
 have H' := a_ H
 clear H
 go_enter Tryz.func16, Tryz.ntmps16
 go_wp2_with (first | ((with_reducible refine gate_dst (N := 4) rfl ?_); refine boxE_ 4 #[.int .i64 0, .int .i64 0] 27 ?_; intro g0 hg w5 hbox hb; have B0 := a_ (hbox); have E0 := a_ ((gE_ hg : w.heap.size ≤ g0)); replace HB := a_ (below_step hB_ hb); clear hb hbox hg; have p310 : 0 ≤ (0 : Int) := (by omega); have q310 : 0 < (l1.length : Int) := of_decide_eq_true hA_; obtain ⟨d0, e310, h8⟩ := Kd.at_int HR1.out 0 p310 q310; cases e310; have qi310 : (0 < l1.length) = True := eq_true (by omega); (try rw [show ((0 : Int)).toNat = 0 from rfl] at h8); (try rw [Addr.add_zero'] at h8); replace h8 := cl_ HB.out h8; replace p310 := eq_true p310; replace q310 := eq_true q310))
 (try simp only [Act.put, List.setIfInBounds_toArray, List.set_cons_zero, List.set_cons_succ])
 go_loopg [5, 6] k (fun kq v5 v6 w' => ∃ (x4 : Int) (x8 : Int), v5 = .int .i64 x4 ∧ v6 = .int .i64 x8 ∧ Aside0 (sleuthref12_byHalves.l0 kq l0 l1 x4 x8 = some (r1, r2)) ∧ Aside0 (kq ≤ k) ∧ Aside0 (w'.heap[g0]? = some (.cells #[.int .i64 0, .int .i64 0] 27 (0, 0))) ∧ Aside0 (Below w.heap.size w w'))
 case atStart => exact ⟨(0), (0), hW_, hW_, H', ⟨Nat.le_refl _⟩, ⟨(hK_ B0.out)⟩, ⟨hC_⟩⟩
 case round =>
  clear H'
  try clear c1
  try clear p2
  try clear c3
  try clear c3b0
  try clear c3b1
  try clear p3
  try clear q3
  try clear hx3
  try clear qi3
  try clear c4
  try clear c4b0
  try clear c4b1
  try clear h8
  try clear p310
  try clear q310
  obtain ⟨x4, x8, rfl, rfl, HA, HK1, B0, HB⟩ := hrel
  cases gk with
  | zero => exact absurd HA.out (by simp [sleuthref12_byHalves.l0])
  | succ k1 =>
   have H := HA.out
   clear HA
   simp only [sleuthref12_byHalves.l0] at H
   by_cases c6 : x8 < (l0.length : Int)
   case pos =>
    rw [if_pos c6] at H
    have c6b0 : decide (x8 < (l0.length : Int)) = true := decide_eq_true c6
    clear c6
    replace H := ifI_ H; obtain ⟨c7, H⟩ := H
    have c7b0 : decide (0 ≤ x8) = true := decide_eq_true c7
    clear c7
    replace H := ifI_ H; obtain ⟨c8, H⟩ := H
    have c8b0 : decide (x8 < (l1.length : Int)) = true := decide_eq_true c8
    clear c8
    by_cases c9 : (rd l1 x8) = 2
    case neg =>
     rw [if_neg c9] at H
     have c9b0 : ((rd l1 x8) == 2) = false := beq_eq_false_iff_ne.mpr c9
     have c9b1 : ((rd l1 x8) != 2) = true := bne_iff_ne.mpr c9
     have H' := a_ H
     clear H
     have p314 : 0 ≤ (x8 : Int) := of_decide_eq_true hA_
     have q314 : x8 < (l1.length : Int) := of_decide_eq_true hA_
     obtain ⟨d11, e314, h11⟩ := Kd.at_int HR1.out x8 p314 q314
     obtain rfl : d0 = d11 := (by injection e314)
     replace h11 := cl_ HB.out h11
     replace p314 := eq_true p314
     replace q314 := eq_true q314
     go_wp2
     go_roundg k1
     case measure => have := HK1.out; omega
     case rel => exact ⟨(x4), (wrap64 (x8 + 1)), hW_, hW_, H', ⟨by have := HK1.out; omega⟩, ⟨(hK_ B0.out)⟩, ⟨hC_⟩⟩
    rw [if_pos c9] at H
    have c9b0 : ((rd l1 x8) == 2) = true := beq_iff_eq.mpr c9
    have c9b1 : ((rd l1 x8) != 2) = false := bne_eq_false_iff_eq.mpr c9
    clear c9
    have H' := a_ H
    clear H
    have p314 : 0 ≤ (x8 : Int) := of_decide_eq_true hA_
    have q314 : x8 < (l1.length : Int) := of_decide_eq_true hA_
    obtain ⟨d11, e314, h11⟩ := Kd.at_int HR1.out x8 p314 q314
    obtain rfl : d0 = d11 := (by injection e314)
    replace h11 := cl_ HB.out h11
    replace p314 := eq_true p314
    replace q314 := eq_true q314
    go_wp2
    go_roundg k1
    case measure => have := HK1.out; omega
    case rel => exact ⟨(x8), (wrap64 (x8 + 1)), hW_, hW_, H', ⟨by have := HK1.out; omega⟩, ⟨(hK_ B0.out)⟩, ⟨hC_⟩⟩
   rw [if_neg c6] at H
   have c6b0 : decide (x8 < (l0.length : Int)) = false := decide_eq_false c6
   clear c6
   replace H := ifI_ H; obtain ⟨c10, H⟩ := H
   have c10b0 := eq_true c10
   have c10b1 : decide (0 ≤ (l0.length : Int)) = true := decide_eq_true c10
   clear c10
   replace H := ifI_ H; obtain ⟨c11, H⟩ := H
   have c11b0 := eq_true c11
   have c11b1 : decide (((l0.length : Int) : Int).toNat ≤ 281474976710656) = true := decide_eq_true c11
   clear c11
   obtain ⟨y3, i0⟩ : ∃ y_ : List Bool, y_ = (List.replicate ((l0.length : Int) : Int).toNat false) := ⟨_, rfl⟩
   replace H : (if ((l0.length : Int) : Int).toNat ≤ 35184372088832 then (sleuthref12_byHalves.l1 k1 l0 l1 x4 y3 (List.replicate ((l0.length : Int) : Int).toNat 0) 0 (wrap64 (x4 + 1))) else (none)) = some (r1, r2) := by first | (rw [i0]; with_reducible exact H) | (have H2_ := (Option.bind_some _ _).symm.trans H; rw [i0]; with_reducible exact H2_) | (have H2_ := (Option.bind_some _ _).symm.trans H; with_reducible exact H2_) | with_reducible exact H | (rw [i0]; exact H) | exact H
   have Y3 := a_ i0
   clear i0
   replace H := ifI_ H; obtain ⟨c12, H⟩ := H
   have c12b0 := eq_true c12
   have c12b1 : decide (((l0.length : Int) : Int).toNat ≤ 35184372088832) = true := decide_eq_true c12
   clear c12
   obtain ⟨y7, i1⟩ : ∃ y_ : List Int, y_ = (List.replicate ((l0.length : Int) : Int).toNat 0) := ⟨_, rfl⟩
   replace H : (sleuthref12_byHalves.l1 k1 l0 l1 x4 y3 y7 0 (wrap64 (x4 + 1))) = some (r1, r2) := by first | (rw [i1]; with_reducible exact H) | (have H2_ := (Option.bind_some _ _).symm.trans H; rw [i1]; with_reducible exact H2_) | (have H2_ := (Option.bind_some _ _).symm.trans H; with_reducible exact H2_) | with_reducible exact H | (rw [i1]; exact H) | exact H
   have Y4 := a_ i1
   clear i1
   have H' := a_ H
   clear H
   go_wp2_with (first | ((with_reducible refine gate_dst (N := 39) rfl ?_); refine Kd.R_make Kd.bool _ 4 rfl (N := 39) rfl 48 _ _ rfl (l0.length : Int) rfl rfl Tryz.underlying48 (.bool false) 1 info4 rfl (by decide) (by omega) false (ok := fun _ => True) (okp := fun _ => True) rfl (fun _ hk => hk) trivial (of_decide_eq_true hA_) (Nat.le_trans (Nat.mul_le_mul_right _ (of_decide_eq_true hA_ : (l0.length : Int).toNat ≤ 281474976710656)) (by omega)) (Below.refl _ _) (Nat.le_refl _) ?_; intro v0 w13 ho14 hb hg_ hnew_; clear hg_ hnew_; (first | rw [← Y3.out] at ho14 | (simp only [Int.reduceToNat] at ho14; rw [← Y3.out] at ho14)); have P0 := a_ (Kd.R_lower ho14 (below_size hC_)); replace B0 := a_ (bB_ B0.out hb); replace HB := a_ (below_step hC_ hb); clear hb ho14) | ((with_reducible refine gate_dst (N := 42) rfl ?_); refine Kd.R_make (Kd.int .i64) _ 3 rfl (N := 42) rfl 23 _ _ rfl (l0.length : Int) rfl rfl Tryz.underlying23 (.int .i64 0) 8 info3 rfl (by decide) (by omega) 0 (ok := fun _ => True) (okp := fun _ => True) rfl (fun _ hk => hk) trivial (of_decide_eq_true hA_) (Nat.le_trans (Nat.mul_le_mul_right _ (of_decide_eq_true hA_ : (l0.length : Int).toNat ≤ 35184372088832)) (by omega)) (Below.refl _ _) (Nat.le_refl _) ?_; intro v1 w15 ho16 hb hg_ hnew_; clear hg_ hnew_; (first | rw [← Y4.out] at ho16 | (simp only [Int.reduceToNat] at ho16; rw [← Y4.out] at ho16)); replace P0 := a_ (Kd.R_below (hR_ P0.out) hb); have P1 := a_ (Kd.R_lower ho16 (below_size hC_)); replace B0 := a_ (bB_ B0.out hb); replace HB := a_ (below_step hC_ hb); clear hb ho16))
   go_loopg [9, 10] k1 (fun kq v9 v2 w' => ∃ (x2 : List Bool) (x5 : List Int) (x6 : Int) (x0 : Int), v9 = .int .i64 x6 ∧ v2 = .int .i64 x0 ∧ Aside0 (sleuthref12_byHalves.l1 kq l0 l1 x4 x2 x5 x6 x0 = some (r1, r2)) ∧ Aside0 (kq ≤ k1) ∧ Aside0 (Kd.R Kd.bool 4 w' w.heap.size (fun _ => True) v0 x2) ∧ Aside0 (Kd.R (Kd.int .i64) 3 w' w.heap.size (fun _ => True) v1 x5) ∧ Aside0 (w'.heap[g0]? = some (.cells #[.int .i64 0, .int .i64 0] 27 (0, 0))) ∧ Aside0 (Below w.heap.size w w'))
   case atStart => exact ⟨(y3), (y7), (0), (wrap64 (x4 + 1)), hW_, hW_, H', ⟨Nat.le_refl _⟩, ⟨hR_ P0.out⟩, ⟨hR_ P1.out⟩, ⟨(hK_ B0.out)⟩, ⟨hC_⟩⟩
   case round =>
    clear H'
    try clear c1
    try clear p2
    try clear c3
    try clear c3b0
    try clear c3b1
    try clear p3
    try clear q3
    try clear hx3
    try clear qi3
    try clear c4
    try clear c4b0
    try clear c4b1
    try clear c6
    try clear c6b0
    try clear p6
    try clear c7
    try clear c7b0
    try clear c8
    try clear c8b0
    try clear c9
    try clear c9b0
    try clear c9b1
    try clear c10
    try clear c10b0
    try clear c10b1
    try clear c11
    try clear c11b0
    try clear c11b1
    try clear c12
    try clear c12b0
    try clear c12b1
    try clear c16
    try clear h8
    try clear h11
    try clear p2
    try clear p3
    try clear p310
    try clear p314
    try clear q3
    try clear q310
    try clear q314
    obtain ⟨x2, x5, x6, x0, rfl, rfl, HA, HK2, O0, O1, B0, HB⟩ := hrel
    cases gk with
    | zero => exact absurd HA.out (by simp [sleuthref12_byHalves.l1])
    | succ k2 =>
     have H := HA.out
     clear HA
     simp only [sleuthref12_byHalves.l1] at H
     by_cases c17 : x0 < (l0.length : Int)
     case pos =>
      rw [if_pos c17] at H
      have c17b0 : decide (x0 < (l0.length : Int)) = true := decide_eq_true c17
      clear c17
      replace H := ifI_ H; obtain ⟨c18, H⟩ := H
      have c18b0 : decide (0 ≤ x0) = true := decide_eq_true c18
      clear c18
      by_cases c19 : ((rd_T40 l0 x0).f1) = x4
      case pos =>
       rw [if_pos c19] at H
       have c19b0 : (((rd_T40 l0 x0).f1) == x4) = true := beq_iff_eq.mpr c19
       have c19b1 : (((rd_T40 l0 x0).f1) != x4) = false := bne_eq_false_iff_eq.mpr c19
       clear c19
       replace H := ifI_ H; obtain ⟨c20, H⟩ := H
       have c20b0 : decide (x0 < (l1.length : Int)) = true := decide_eq_true c20
       clear c20
       replace H := ifI_ H; obtain ⟨c21, H⟩ := H
       have c21b0 : decide (x0 < (x2.length : Int)) = true := decide_eq_true c21
       clear c21
       obtain ⟨y2, i2⟩ : ∃ y_ : List Bool, y_ = (x2.set (x0 : Int).toNat ((rd l1 x0) != 1)) := ⟨_, rfl⟩
       replace H : (if rdOf false y2 x0 = true then (if (rd l1 x0) = 0 then (if x0 < (x5.length : Int) then (sleuthref12_byHalves.l1 k2 l0 l1 x4 y2 (x5.set (x0 : Int).toNat 1) (wrap64 (x6 + 1)) (wrap64 (x0 + 1))) else (none)) else (sleuthref12_byHalves.l1 k2 l0 l1 x4 y2 x5 x6 (wrap64 (x0 + 1)))) else (sleuthref12_byHalves.l1 k2 l0 l1 x4 y2 x5 x6 (wrap64 (x0 + 1)))) = some (r1, r2) := by first | (rw [i2]; with_reducible exact H) | (have H2_ := (Option.bind_some _ _).symm.trans H; rw [i2]; with_reducible exact H2_) | (have H2_ := (Option.bind_some _ _).symm.trans H; with_reducible exact H2_) | with_reducible exact H | (rw [i2]; exact H) | exact H
       have Y0 := a_ i2
       clear i2
       obtain ⟨bq23, hbq23⟩ : ∃ b_ : Bool, b_ = (rdOf false y2 x0) := ⟨_, rfl⟩
       replace H : (if bq23 = true then (if (rd l1 x0) = 0 then (if x0 < (x5.length : Int) then (sleuthref12_byHalves.l1 k2 l0 l1 x4 y2 (x5.set (x0 : Int).toNat 1) (wrap64 (x6 + 1)) (wrap64 (x0 + 1))) else (none)) else (sleuthref12_byHalves.l1 k2 l0 l1 x4 y2 x5 x6 (wrap64 (x0 + 1)))) else (sleuthref12_byHalves.l1 k2 l0 l1 x4 y2 x5 x6 (wrap64 (x0 + 1)))) = some (r1, r2) := by rw [← hbq23] at H; exact H
       have Q3 := a_ hbq23
       clear hbq23
       by_cases c24 : bq23 = true
       case neg =>
        replace c24 := Bool.eq_false_iff.mpr c24
        subst c24
        rw [if_neg (show ¬ (false = true) by decide)] at H
        have H' := a_ H
        clear H
        have p321 : 0 ≤ (x0 : Int) := of_decide_eq_true hA_
        have q321 : x0 < (l0.length : Int) := of_decide_eq_true hA_
        obtain ⟨d3, A321_2, c321_2, e321, h0, h1, h2, h3, hl321_2, hi321_2⟩ := at_T40 HR0.out x0 p321 q321
        cases e321
        replace h0 := cl_ HB.out h0
        replace h1 := cl_ HB.out h1
        replace h2 := cl_ HB.out h2
        replace h3 := cl_ HB.out h3
        have HR321_2 := a_ hi321_2
        have HC321_2 := a_ hl321_2
        clear hi321_2 hl321_2
        replace p321 := eq_true p321
        replace q321 := eq_true q321
        have p322 : 0 ≤ (x0 : Int) := of_decide_eq_true hA_
        have q322 : x0 < (l1.length : Int) := of_decide_eq_true hA_
        obtain ⟨d4, e322, h9⟩ := Kd.at_int HR1.out x0 p322 q322
        obtain rfl : d0 = d4 := (by injection e322)
        replace h9 := cl_ HB.out h9
        replace p322 := eq_true p322
        replace q322 := eq_true q322
        have p22 : 0 ≤ (x0 : Int) := of_decide_eq_true hA_
        have q22 : (x0 : Int) < ((x2.length : Int) : Int) := of_decide_eq_true hA_
        obtain ⟨j0, o0, e0, g1, gl22, cl22, HG22⟩ := Kd.R_form O0.out (by omega)
        (first | cases e0 | (injection e0 with ea_ en_ ec_; (first | subst ea_ | (injection ea_ with ea_; subst ea_)); subst ec_; clear en_))
        have J0 := a_ g1
        have K0 := a_ HG22
        clear g1 gl22 HG22
        obtain ⟨h30, hf22_0⟩ := Kd.R_celln false O0.out (x0 : Int) p22 q22
        replace p22 := eq_true p22
        replace q22 := eq_true q22
        have HP34 := Kd.R_putg O0.out (x0 : Int) ((rd l1 x0) != 1)
        go_wp2_with (first | ((with_reducible refine gate_store (t := 4) (p := 74) rfl ?_); refine store_event (t := 4) (p := 74) (v := ?vo_w35) (w1 := (wr.setCell ⟨j0, (x0 : Int).toNat, none⟩ (.bool ((rd l1 x0) != 1)))) ?hg ?ho ?hn ?hr ?_; (case ho => rfl); (case hg => rfl); (case hn => rfl); (case hr => first | (go_simp; done) | (go_simp; rfl)); intro w4 hw; have hg : wr.grownBy w4 (some j0) := (by rw [hw]; exact HP34.2); have hp_ : Kd.R Kd.bool 4 w4 w.heap.size (fun _ => True) (.slice (some ⟨j0, 0, none⟩) x2.length o0) y2 := (by rw [hw, Y0.out]; exact HP34.1); clear HP34; replace O1 := a_ (Kd.R_over' (v := (.slice (some ⟨j0, 0, none⟩) x2.length o0)) (hR_ O1.out) (Kd.R_typed O0.out) (by decide) hg); replace B0 := a_ (blk_grown (hK_ B0.out) hg (Kd.R_ne O0.out B0.out (by decide))); replace O0 := a_ (hp_); replace HB := a_ ((by rw [hw]; exact below_set (HB.out) J0.out : Below w.heap.size w w4)); clear hg hw hp_; have p324 : 0 ≤ (x0 : Int) := of_decide_eq_true hA_; have q324 : x0 < (y2.length : Int) := (by have h_ : (x0 : Int) < ((x2.length : Int) : Int) := of_decide_eq_true hA_; first | (have e_ := (Kd.R_reads' O0.out).1; omega) | simpa only [Y0.out, List.length_set] using h_); have l4 : ((x0 : Int) < ((x2.length : Int) : Int)) = True := eq_true (of_decide_eq_true hA_); obtain ⟨d5, e324, h7⟩ := Kd.at_bool (Kd.R_reads' O0.out).2.2 x0 p324 q324; (try rw [← Q3.out] at h7); obtain rfl : (⟨j0, 0, none⟩ : Addr) = d5 := (by injection e324); (first | simp only [add_plain] at h7 | simp only [add_at] at h7 | simp only [Addr.add, Nat.zero_add] at h7 | skip); replace p324 := eq_true p324; replace q324 := eq_true q324))
        go_roundg k2
        case measure => have := HK1.out; have := HK2.out; omega
        case rel => exact ⟨(y2), (x5), (x6), (wrap64 (x0 + 1)), hW_, hW_, H', ⟨by have := HK1.out; have := HK2.out; omega⟩, ⟨hR_ O0.out⟩, ⟨hR_ O1.out⟩, ⟨(hK_ B0.out)⟩, ⟨hC_⟩⟩
       subst c24
       rw [if_pos rfl] at H
       by_cases c25 : (rd l1 x0) = 0
       case neg =>
        rw [if_neg c25] at H
        have c25b0 : ((rd l1 x0) == 0) = false := beq_eq_false_iff_ne.mpr c25
        have c25b1 : ((rd l1 x0) != 0) = true := bne_iff_ne.mpr c25
        have H' := a_ H
        clear H
        have p321 : 0 ≤ (x0 : Int) := of_decide_eq_true hA_
        have q321 : x0 < (l0.length : Int) := of_decide_eq_true hA_
        obtain ⟨d3, A321_2, c321_2, e321, h0, h1, h2, h3, hl321_2, hi321_2⟩ := at_T40 HR0.out x0 p321 q321
        cases e321
        replace h0 := cl_ HB.out h0
        replace h1 := cl_ HB.out h1
        replace h2 := cl_ HB.out h2
        replace h3 := cl_ HB.out h3
        have HR321_2 := a_ hi321_2
        have HC321_2 := a_ hl321_2
        clear hi321_2 hl321_2
        replace p321 := eq_true p321
        replace q321 := eq_true q321
        have p322 : 0 ≤ (x0 : Int) := of_decide_eq_true hA_
        have q322 : x0 < (l1.length : Int) := of_decide_eq_true hA_
        obtain ⟨d4, e322, h9⟩ := Kd.at_int HR1.out x0 p322 q322
        obtain rfl : d0 = d4 := (by injection e322)
        replace h9 := cl_ HB.out h9
        replace p322 := eq_true p322
        replace q322 := eq_true q322
        have p22 : 0 ≤ (x0 : Int) := of_decide_eq_true hA_
        have q22 : (x0 : Int) < ((x2.length : Int) : Int) := of_decide_eq_true hA_
        obtain ⟨j0, o0, e0, g1, gl22, cl22, HG22⟩ := Kd.R_form O0.out (by omega)
        (first | cases e0 | (injection e0 with ea_ en_ ec_; (first | subst ea_ | (injection ea_ with ea_; subst ea_)); subst ec_; clear en_))
        have J0 := a_ g1
        have K0 := a_ HG22
        clear g1 gl22 HG22
        obtain ⟨h30, hf22_0⟩ := Kd.R_celln false O0.out (x0 : Int) p22 q22
        replace p22 := eq_true p22
        replace q22 := eq_true q22
        have HP32 := Kd.R_putg O0.out (x0 : Int) ((rd l1 x0) != 1)
        go_wp2_with (first | ((with_reducible refine gate_store (t := 4) (p := 74) rfl ?_); refine store_event (t := 4) (p := 74) (v := ?vo_w33) (w1 := (wr.setCell ⟨j0, (x0 : Int).toNat, none⟩ (.bool ((rd l1 x0) != 1)))) ?hg ?ho ?hn ?hr ?_; (case ho => rfl); (case hg => rfl); (case hn => rfl); (case hr => first | (go_simp; done) | (go_simp; rfl)); intro w6 hw; have hg : wr.grownBy w6 (some j0) := (by rw [hw]; exact HP32.2); have hp_ : Kd.R Kd.bool 4 w6 w.heap.size (fun _ => True) (.slice (some ⟨j0, 0, none⟩) x2.length o0) y2 := (by rw [hw, Y0.out]; exact HP32.1); clear HP32; replace O1 := a_ (Kd.R_over' (v := (.slice (some ⟨j0, 0, none⟩) x2.length o0)) (hR_ O1.out) (Kd.R_typed O0.out) (by decide) hg); replace B0 := a_ (blk_grown (hK_ B0.out) hg (Kd.R_ne O0.out B0.out (by decide))); replace O0 := a_ (hp_); replace HB := a_ ((by rw [hw]; exact below_set (HB.out) J0.out : Below w.heap.size w w6)); clear hg hw hp_; have p324 : 0 ≤ (x0 : Int) := of_decide_eq_true hA_; have q324 : x0 < (y2.length : Int) := (by have h_ : (x0 : Int) < ((x2.length : Int) : Int) := of_decide_eq_true hA_; first | (have e_ := (Kd.R_reads' O0.out).1; omega) | simpa only [Y0.out, List.length_set] using h_); have l4 : ((x0 : Int) < ((x2.length : Int) : Int)) = True := eq_true (of_decide_eq_true hA_); obtain ⟨d5, e324, h7⟩ := Kd.at_bool (Kd.R_reads' O0.out).2.2 x0 p324 q324; (try rw [← Q3.out] at h7); obtain rfl : (⟨j0, 0, none⟩ : Addr) = d5 := (by injection e324); (first | simp only [add_plain] at h7 | simp only [add_at] at h7 | simp only [Addr.add, Nat.zero_add] at h7 | skip); replace p324 := eq_true p324; replace q324 := eq_true q324; have p325 : 0 ≤ (x0 : Int) := of_decide_eq_true hA_; have q325 : x0 < (l1.length : Int) := of_decide_eq_true hA_; obtain ⟨d12, e325, h12⟩ := Kd.at_int HR1.out x0 p325 q325; obtain rfl : d0 = d12 := (by injection e325); replace h12 := cl_ HB.out h12; replace p325 := eq_true p325; replace q325 := eq_true q325))
        go_roundg k2
        case measure => have := HK1.out; have := HK2.out; omega
        case rel => exact ⟨(y2), (x5), (x6), (wrap64 (x0 + 1)), hW_, hW_, H', ⟨by have := HK1.out; have := HK2.out; omega⟩, ⟨hR_ O0.out⟩, ⟨hR_ O1.out⟩, ⟨(hK_ B0.out)⟩, ⟨hC_⟩⟩
       rw [if_pos c25] at H
       have c25b0 : ((rd l1 x0) == 0) = true := beq_iff_eq.mpr c25
       have c25b1 : ((rd l1 x0) != 0) = false := bne_eq_false_iff_eq.mpr c25
       clear c25
       replace H := ifI_ H; obtain ⟨c26, H⟩ := H
       have c26b0 : decide (x0 < (x5.length : Int)) = true := decide_eq_true c26
       clear c26
       obtain ⟨y4, i3⟩ : ∃ y_ : List Int, y_ = (x5.set (x0 : Int).toNat 1) := ⟨_, rfl⟩
       replace H : (sleuthref12_byHalves.l1 k2 l0 l1 x4 y2 y4 (wrap64 (x6 + 1)) (wrap64 (x0 + 1))) = some (r1, r2) := by first | (rw [i3]; with_reducible exact H) | (have H2_ := (Option.bind_some _ _).symm.trans H; rw [i3]; with_reducible exact H2_) | (have H2_ := (Option.bind_some _ _).symm.trans H; with_reducible exact H2_) | with_reducible exact H | (rw [i3]; exact H) | exact H
       have Y5 := a_ i3
       clear i3
       have H' := a_ H
       clear H
       have p321 : 0 ≤ (x0 : Int) := of_decide_eq_true hA_
       have q321 : x0 < (l0.length : Int) := of_decide_eq_true hA_
       obtain ⟨d3, A321_2, c321_2, e321, h0, h1, h2, h3, hl321_2, hi321_2⟩ := at_T40 HR0.out x0 p321 q321
       cases e321
       replace h0 := cl_ HB.out h0
       replace h1 := cl_ HB.out h1
       replace h2 := cl_ HB.out h2
       replace h3 := cl_ HB.out h3
       have HR321_2 := a_ hi321_2
       have HC321_2 := a_ hl321_2
       clear hi321_2 hl321_2
       replace p321 := eq_true p321
       replace q321 := eq_true q321
       have p322 : 0 ≤ (x0 : Int) := of_decide_eq_true hA_
       have q322 : x0 < (l1.length : Int) := of_decide_eq_true hA_
       obtain ⟨d4, e322, h9⟩ := Kd.at_int HR1.out x0 p322 q322
       obtain rfl : d0 = d4 := (by injection e322)
       replace h9 := cl_ HB.out h9
       replace p322 := eq_true p322
       replace q322 := eq_true q322
       have p22 : 0 ≤ (x0 : Int) := of_decide_eq_true hA_
       have q22 : (x0 : Int) < ((x2.length : Int) : Int) := of_decide_eq_true hA_
       obtain ⟨j0, o0, e0, g1, gl22, cl22, HG22⟩ := Kd.R_form O0.out (by omega)
       (first | cases e0 | (injection e0 with ea_ en_ ec_; (first | subst ea_ | (injection ea_ with ea_; subst ea_)); subst ec_; clear en_))
       have J0 := a_ g1
       have K0 := a_ HG22
       clear g1 gl22 HG22
       obtain ⟨h30, hf22_0⟩ := Kd.R_celln false O0.out (x0 : Int) p22 q22
       replace p22 := eq_true p22
       replace q22 := eq_true q22
       have HP28 := Kd.R_putg O0.out (x0 : Int) ((rd l1 x0) != 1)
       go_wp2_with (first | ((with_reducible refine gate_store (t := 4) (p := 74) rfl ?_); refine store_event (t := 4) (p := 74) (v := ?vo_w29) (w1 := (wr.setCell ⟨j0, (x0 : Int).toNat, none⟩ (.bool ((rd l1 x0) != 1)))) ?hg ?ho ?hn ?hr ?_; (case ho => rfl); (case hg => rfl); (case hn => rfl); (case hr => first | (go_simp; done) | (go_simp; rfl)); intro w0 hw; have hg : wr.grownBy w0 (some j0) := (by rw [hw]; exact HP28.2); have hp_ : Kd.R Kd.bool 4 w0 w.heap.size (fun _ => True) (.slice (some ⟨j0, 0, none⟩) x2.length o0) y2 := (by rw [hw, Y0.out]; exact HP28.1); clear HP28; replace O1 := a_ (Kd.R_over' (v := (.slice (some ⟨j0, 0, none⟩) x2.length o0)) (hR_ O1.out) (Kd.R_typed O0.out) (by decide) hg); replace B0 := a_ (blk_grown (hK_ B0.out) hg (Kd.R_ne O0.out B0.out (by decide))); replace O0 := a_ (hp_); replace HB := a_ ((by rw [hw]; exact below_set (HB.out) J0.out : Below w.heap.size w w0)); clear hg hw hp_; have p324 : 0 ≤ (x0 : Int) := of_decide_eq_true hA_; have q324 : x0 < (y2.length : Int) := (by have h_ : (x0 : Int) < ((x2.length : Int) : Int) := of_decide_eq_true hA_; first | (have e_ := (Kd.R_reads' O0.out).1; omega) | simpa only [Y0.out, List.length_set] using h_); have l4 : ((x0 : Int) < ((x2.length : Int) : Int)) = True := eq_true (of_decide_eq_true hA_); obtain ⟨d5, e324, h7⟩ := Kd.at_bool (Kd.R_reads' O0.out).2.2 x0 p324 q324; (try rw [← Q3.out] at h7); obtain rfl : (⟨j0, 0, none⟩ : Addr) = d5 := (by injection e324); (first | simp only [add_plain] at h7 | simp only [add_at] at h7 | simp only [Addr.add, Nat.zero_add] at h7 | skip); replace p324 := eq_true p324; replace q324 := eq_true q324; have p325 : 0 ≤ (x0 : Int) := of_decide_eq_true hA_; have q325 : x0 < (l1.length : Int) := of_decide_eq_true hA_; obtain ⟨d12, e325, h12⟩ := Kd.at_int HR1.out x0 p325 q325; obtain rfl : d0 = d12 := (by injection e325); replace h12 := cl_ HB.out h12; replace p325 := eq_true p325; replace q325 := eq_true q325; have p27 : 0 ≤ (x0 : Int) := of_decide_eq_true hA_; have q27 : (x0 : Int) < ((x5.length : Int) : Int) := of_decide_eq_true hA_; obtain ⟨j3, o1, e3, g4, gl27, cl27, HG27⟩ := Kd.R_form O1.out (by omega); (first | cases e3 | (injection e3 with ea_ en_ ec_; (first | subst ea_ | (injection ea_ with ea_; subst ea_)); subst ec_; clear en_)); have J3 := a_ g4; have K4 := a_ HG27; clear g4 gl27 HG27; obtain ⟨h37, hf27_0⟩ := Kd.R_celln 0 O1.out (x0 : Int) p27 q27; replace p27 := eq_true p27; replace q27 := eq_true q27; obtain ⟨hy30_, hz30_⟩ := Kd.R_celln 0 O1.out (x0 : Int) (of_decide_eq_true hA_) (of_decide_eq_true hA_); have HP30 := Kd.R_putg O1.out (x0 : Int) 1) | ((with_reducible refine gate_store (t := 3) (p := 88) rfl ?_); refine store_event (t := 3) (p := 88) (v := ?vo_w31) (w1 := (w0.setCell ⟨j3, (x0 : Int).toNat, none⟩ (.int .i64 1))) ?hg ?ho ?hn ?hr ?_; (case ho => rfl); (case hg => rfl); (case hn => rfl); (case hr => first | (go_simp; done) | (go_simp; rfl)); intro w7 hw; have hg : w0.grownBy w7 (some j3) := (by rw [hw]; exact HP30.2); have hp_ : Kd.R (Kd.int .i64) 3 w7 w.heap.size (fun _ => True) (.slice (some ⟨j3, 0, none⟩) x5.length o1) y4 := (by rw [hw, Y5.out]; exact HP30.1); clear HP30; replace O0 := a_ (Kd.R_over' (v := (.slice (some ⟨j3, 0, none⟩) x5.length o1)) (hR_ O0.out) (Kd.R_typed O1.out) (by decide) hg); replace B0 := a_ (blk_grown (hK_ B0.out) hg (Kd.R_ne O1.out B0.out (by decide))); replace O1 := a_ (hp_); replace HB := a_ ((by rw [hw]; exact below_set (HB.out) J3.out : Below w.heap.size w w7)); clear hg hw hp_))
       go_roundg k2
       case measure => have := HK1.out; have := HK2.out; omega
       case rel => exact ⟨(y2), (y4), (wrap64 (x6 + 1)), (wrap64 (x0 + 1)), hW_, hW_, H', ⟨by have := HK1.out; have := HK2.out; omega⟩, ⟨hR_ O0.out⟩, ⟨hR_ O1.out⟩, ⟨(hK_ B0.out)⟩, ⟨hC_⟩⟩
      rw [if_neg c19] at H
      have c19b0 : (((rd_T40 l0 x0).f1) == x4) = false := beq_eq_false_iff_ne.mpr c19
      have c19b1 : (((rd_T40 l0 x0).f1) != x4) = true := bne_iff_ne.mpr c19
      replace H := ifI_ H; obtain ⟨c36, H⟩ := H
      have c36b0 : decide (0 ≤ ((rd_T40 l0 x0).f1)) = true := decide_eq_true c36
      clear c36
      replace H := ifI_ H; obtain ⟨c37, H⟩ := H
      have c37b0 : decide (((rd_T40 l0 x0).f1) < (x2.length : Int)) = true := decide_eq_true c37
      clear c37
      obtain ⟨bq38, hbq38⟩ : ∃ b_ : Bool, b_ = (rdOf false x2 ((rd_T40 l0 x0).f1)) := ⟨_, rfl⟩
      replace H : (if bq38 = true then (if x0 < (l1.length : Int) then (if x0 < (x2.length : Int) then ((some (x2.set (x0 : Int).toNat ((rd l1 x0) != 1) : List Bool)).bind fun y0 => (if rdOf false y0 x0 = true then (if (rd l1 x0) = 0 then (if x0 < (x5.length : Int) then (sleuthref12_byHalves.l1 k2 l0 l1 x4 y0 (x5.set (x0 : Int).toNat 1) (wrap64 (x6 + 1)) (wrap64 (x0 + 1))) else (none)) else (sleuthref12_byHalves.l1 k2 l0 l1 x4 y0 x5 x6 (wrap64 (x0 + 1)))) else (sleuthref12_byHalves.l1 k2 l0 l1 x4 y0 x5 x6 (wrap64 (x0 + 1))))) else (none)) else (none)) else (if x0 < (x2.length : Int) then ((some (x2.set (x0 : Int).toNat false : List Bool)).bind fun y1 => (if rdOf false y1 x0 = true then (if x0 < (l1.length : Int) then (if (rd l1 x0) = 0 then (if x0 < (x5.length : Int) then (sleuthref12_byHalves.l1 k2 l0 l1 x4 y1 (x5.set (x0 : Int).toNat 1) (wrap64 (x6 + 1)) (wrap64 (x0 + 1))) else (none)) else (sleuthref12_byHalves.l1 k2 l0 l1 x4 y1 x5 x6 (wrap64 (x0 + 1)))) else (none)) else (sleuthref12_byHalves.l1 k2 l0 l1 x4 y1 x5 x6 (wrap64 (x0 + 1))))) else (none))) = some (r1, r2) := by rw [← hbq38] at H; exact H
      have Q0 := a_ hbq38
      clear hbq38
      by_cases c39 : bq38 = true
      case neg =>
       replace c39 := Bool.eq_false_iff.mpr c39
       subst c39
       rw [if_neg (show ¬ (false = true) by decide)] at H
       replace H := ifI_ H; obtain ⟨c59, H⟩ := H
       have c59b0 : decide (x0 < (x2.length : Int)) = true := decide_eq_true c59
       clear c59
       obtain ⟨y1, i4⟩ : ∃ y_ : List Bool, y_ = (x2.set (x0 : Int).toNat false) := ⟨_, rfl⟩
       replace H : (if rdOf false y1 x0 = true then (if x0 < (l1.length : Int) then (if (rd l1 x0) = 0 then (if x0 < (x5.length : Int) then (sleuthref12_byHalves.l1 k2 l0 l1 x4 y1 (x5.set (x0 : Int).toNat 1) (wrap64 (x6 + 1)) (wrap64 (x0 + 1))) else (none)) else (sleuthref12_byHalves.l1 k2 l0 l1 x4 y1 x5 x6 (wrap64 (x0 + 1)))) else (none)) else (sleuthref12_byHalves.l1 k2 l0 l1 x4 y1 x5 x6 (wrap64 (x0 + 1)))) = some (r1, r2) := by first | (rw [i4]; with_reducible exact H) | (have H2_ := (Option.bind_some _ _).symm.trans H; rw [i4]; with_reducible exact H2_) | (have H2_ := (Option.bind_some _ _).symm.trans H; with_reducible exact H2_) | with_reducible exact H | (rw [i4]; exact H) | exact H
       have Y1 := a_ i4
       clear i4
       obtain ⟨bq61, hbq61⟩ : ∃ b_ : Bool, b_ = (rdOf false y1 x0) := ⟨_, rfl⟩
       replace H : (if bq61 = true then (if x0 < (l1.length : Int) then (if (rd l1 x0) = 0 then (if x0 < (x5.length : Int) then (sleuthref12_byHalves.l1 k2 l0 l1 x4 y1 (x5.set (x0 : Int).toNat 1) (wrap64 (x6 + 1)) (wrap64 (x0 + 1))) else (none)) else (sleuthref12_byHalves.l1 k2 l0 l1 x4 y1 x5 x6 (wrap64 (x0 + 1)))) else (none)) else (sleuthref12_byHalves.l1 k2 l0 l1 x4 y1 x5 x6 (wrap64 (x0 + 1)))) = some (r1, r2) := by rw [← hbq61] at H; exact H
       have Q1 := a_ hbq61
       clear hbq61
       by_cases c62 : bq61 = true
       case neg =>
        replace c62 := Bool.eq_false_iff.mpr c62
        subst c62
        rw [if_neg (show ¬ (false = true) by decide)] at H
        have H' := a_ H
        clear H
        have p321 : 0 ≤ (x0 : Int) := of_decide_eq_true hA_
        have q321 : x0 < (l0.length : Int) := of_decide_eq_true hA_
        obtain ⟨d3, A321_2, c321_2, e321, h0, h1, h2, h3, hl321_2, hi321_2⟩ := at_T40 HR0.out x0 p321 q321
        cases e321
        replace h0 := cl_ HB.out h0
        replace h1 := cl_ HB.out h1
        replace h2 := cl_ HB.out h2
        replace h3 := cl_ HB.out h3
        have HR321_2 := a_ hi321_2
        have HC321_2 := a_ hl321_2
        clear hi321_2 hl321_2
        replace p321 := eq_true p321
        replace q321 := eq_true q321
        obtain ⟨a0, o2, e11⟩ := Kd.R_slice O0.out
        subst e11
        have p327 : 0 ≤ (((rd_T40 l0 x0).f1) : Int) := of_decide_eq_true hA_
        have q327 : ((rd_T40 l0 x0).f1) < (x2.length : Int) := of_decide_eq_true hA_
        obtain ⟨d6, e327, h4⟩ := Kd.at_bool (Kd.R_reads' O0.out).2.2 ((rd_T40 l0 x0).f1) p327 q327
        (try rw [← Q0.out] at h4)
        (try rw [← Q1.out] at h4)
        cases e327
        replace p327 := eq_true p327
        replace q327 := eq_true q327
        have p60 : 0 ≤ (x0 : Int) := of_decide_eq_true hA_
        have q60 : (x0 : Int) < ((x2.length : Int) : Int) := of_decide_eq_true hA_
        obtain ⟨j1, o3, e1, g2, gl60, cl60, HG60⟩ := Kd.R_form O0.out (by omega)
        (first | cases e1 | (injection e1 with ea_ en_ ec_; (first | subst ea_ | (injection ea_ with ea_; subst ea_)); subst ec_; clear en_))
        have J1 := a_ g2
        have K1 := a_ HG60
        clear g2 gl60 HG60
        (first | simp only [add_plain] at h4 | skip)
        obtain ⟨h31, hf60_0⟩ := Kd.R_celln false O0.out (x0 : Int) p60 q60
        replace p60 := eq_true p60
        replace q60 := eq_true q60
        have HP76 := Kd.R_putg O0.out (x0 : Int) false
        go_wp2_with (first | ((with_reducible refine gate_store (t := 4) (p := 74) rfl ?_); refine store_event (t := 4) (p := 74) (v := ?vo_w77) (w1 := (wr.setCell ⟨j1, (x0 : Int).toNat, none⟩ (.bool false))) ?hg ?ho ?hn ?hr ?_; (case ho => rfl); (case hg => rfl); (case hn => rfl); (case hr => first | (go_simp; done) | (go_simp; rfl)); intro w8 hw; have hg : wr.grownBy w8 (some j1) := (by rw [hw]; exact HP76.2); have hp_ : Kd.R Kd.bool 4 w8 w.heap.size (fun _ => True) (.slice (some ⟨j1, 0, none⟩) x2.length o2) y1 := (by rw [hw, Y1.out]; exact HP76.1); clear HP76; replace O1 := a_ (Kd.R_over' (v := (.slice (some ⟨j1, 0, none⟩) x2.length o2)) (hR_ O1.out) (Kd.R_typed O0.out) (by decide) hg); replace B0 := a_ (blk_grown (hK_ B0.out) hg (Kd.R_ne O0.out B0.out (by decide))); replace O0 := a_ (hp_); replace HB := a_ ((by rw [hw]; exact below_set (HB.out) J1.out : Below w.heap.size w w8)); clear hg hw hp_; have p334 : 0 ≤ (x0 : Int) := of_decide_eq_true hA_; have q334 : x0 < (y1.length : Int) := (by have h_ : (x0 : Int) < ((x2.length : Int) : Int) := of_decide_eq_true hA_; first | (have e_ := (Kd.R_reads' O0.out).1; omega) | simpa only [Y1.out, List.length_set] using h_); have l5 : ((x0 : Int) < ((x2.length : Int) : Int)) = True := eq_true (of_decide_eq_true hA_); obtain ⟨d7, e334, h5⟩ := Kd.at_bool (Kd.R_reads' O0.out).2.2 x0 p334 q334; (try rw [← Q0.out] at h5); (try rw [← Q1.out] at h5); obtain rfl : (⟨j1, 0, none⟩ : Addr) = d7 := (by injection e334); (first | simp only [add_plain] at h5 | simp only [add_at] at h5 | simp only [Addr.add, Nat.zero_add] at h5 | skip); replace p334 := eq_true p334; replace q334 := eq_true q334))
        go_roundg k2
        case measure => have := HK1.out; have := HK2.out; omega
        case rel => exact ⟨(y1), (x5), (x6), (wrap64 (x0 + 1)), hW_, hW_, H', ⟨by have := HK1.out; have := HK2.out; omega⟩, ⟨hR_ O0.out⟩, ⟨hR_ O1.out⟩, ⟨(hK_ B0.out)⟩, ⟨hC_⟩⟩
       subst c62
       rw [if_pos rfl] at H
       replace H := ifI_ H; obtain ⟨c63, H⟩ := H
       have c63b0 : decide (x0 < (l1.length : Int)) = true := decide_eq_true c63
       clear c63
       by_cases c64 : (rd l1 x0) = 0
       case neg =>
        rw [if_neg c64] at H
        have c64b0 : ((rd l1 x0) == 0) = false := beq_eq_false_iff_ne.mpr c64
        have c64b1 : ((rd l1 x0) != 0) = true := bne_iff_ne.mpr c64
        have H' := a_ H
        clear H
        have p321 : 0 ≤ (x0 : Int) := of_decide_eq_true hA_
        have q321 : x0 < (l0.length : Int) := of_decide_eq_true hA_
        obtain ⟨d3, A321_2, c321_2, e321, h0, h1, h2, h3, hl321_2, hi321_2⟩ := at_T40 HR0.out x0 p321 q321
        cases e321
        replace h0 := cl_ HB.out h0
        replace h1 := cl_ HB.out h1
        replace h2 := cl_ HB.out h2
        replace h3 := cl_ HB.out h3
        have HR321_2 := a_ hi321_2
        have HC321_2 := a_ hl321_2
        clear hi321_2 hl321_2
        replace p321 := eq_true p321
        replace q321 := eq_true q321
        obtain ⟨a1, o4, e12⟩ := Kd.R_slice O0.out
        subst e12
        have p327 : 0 ≤ (((rd_T40 l0 x0).f1) : Int) := of_decide_eq_true hA_
        have q327 : ((rd_T40 l0 x0).f1) < (x2.length : Int) := of_decide_eq_true hA_
        obtain ⟨d6, e327, h4⟩ := Kd.at_bool (Kd.R_reads' O0.out).2.2 ((rd_T40 l0 x0).f1) p327 q327
        (try rw [← Q0.out] at h4)
        (try rw [← Q1.out] at h4)
        cases e327
        replace p327 := eq_true p327
        replace q327 := eq_true q327
        have p60 : 0 ≤ (x0 : Int) := of_decide_eq_true hA_
        have q60 : (x0 : Int) < ((x2.length : Int) : Int) := of_decide_eq_true hA_
        obtain ⟨j1, o3, e1, g2, gl60, cl60, HG60⟩ := Kd.R_form O0.out (by omega)
        (first | cases e1 | (injection e1 with ea_ en_ ec_; (first | subst ea_ | (injection ea_ with ea_; subst ea_)); subst ec_; clear en_))
        have J1 := a_ g2
        have K1 := a_ HG60
        clear g2 gl60 HG60
        (first | simp only [add_plain] at h4 | skip)
        obtain ⟨h31, hf60_0⟩ := Kd.R_celln false O0.out (x0 : Int) p60 q60
        replace p60 := eq_true p60
        replace q60 := eq_true q60
        have HP73 := Kd.R_putg O0.out (x0 : Int) false
        go_wp2_with (first | ((with_reducible refine gate_store (t := 4) (p := 74) rfl ?_); refine store_event (t := 4) (p := 74) (v := ?vo_w74) (w1 := (wr.setCell ⟨j1, (x0 : Int).toNat, none⟩ (.bool false))) ?hg ?ho ?hn ?hr ?_; (case ho => rfl); (case hg => rfl); (case hn => rfl); (case hr => first | (go_simp; done) | (go_simp; rfl)); intro w9 hw; have hg : wr.grownBy w9 (some j1) := (by rw [hw]; exact HP73.2); have hp_ : Kd.R Kd.bool 4 w9 w.heap.size (fun _ => True) (.slice (some ⟨j1, 0, none⟩) x2.length o4) y1 := (by rw [hw, Y1.out]; exact HP73.1); clear HP73; replace O1 := a_ (Kd.R_over' (v := (.slice (some ⟨j1, 0, none⟩) x2.length o4)) (hR_ O1.out) (Kd.R_typed O0.out) (by decide) hg); replace B0 := a_ (blk_grown (hK_ B0.out) hg (Kd.R_ne O0.out B0.out (by decide))); replace O0 := a_ (hp_); replace HB := a_ ((by rw [hw]; exact below_set (HB.out) J1.out : Below w.heap.size w w9)); clear hg hw hp_; have p334 : 0 ≤ (x0 : Int) := of_decide_eq_true hA_; have q334 : x0 < (y1.length : Int) := (by have h_ : (x0 : Int) < ((x2.length : Int) : Int) := of_decide_eq_true hA_; first | (have e_ := (Kd.R_reads' O0.out).1; omega) | simpa only [Y1.out, List.length_set] using h_); have l5 : ((x0 : Int) < ((x2.length : Int) : Int)) = True := eq_true (of_decide_eq_true hA_); obtain ⟨d7, e334, h5⟩ := Kd.at_bool (Kd.R_reads' O0.out).2.2 x0 p334 q334; (try rw [← Q0.out] at h5); (try rw [← Q1.out] at h5); obtain rfl : (⟨j1, 0, none⟩ : Addr) = d7 := (by injection e334); (first | simp only [add_plain] at h5 | simp only [add_at] at h5 | simp only [Addr.add, Nat.zero_add] at h5 | skip); replace p334 := eq_true p334; replace q334 := eq_true q334; have p335 : 0 ≤ (x0 : Int) := of_decide_eq_true hA_; have q335 : x0 < (l1.length : Int) := of_decide_eq_true hA_; obtain ⟨d13, e335, h13⟩ := Kd.at_int HR1.out x0 p335 q335; obtain rfl : d0 = d13 := (by injection e335); replace h13 := cl_ HB.out h13; replace p335 := eq_true p335; replace q335 := eq_true q335))
        go_roundg k2
        case measure => have := HK1.out; have := HK2.out; omega
        case rel => exact ⟨(y1), (x5), (x6), (wrap64 (x0 + 1)), hW_, hW_, H', ⟨by have := HK1.out; have := HK2.out; omega⟩, ⟨hR_ O0.out⟩, ⟨hR_ O1.out⟩, ⟨(hK_ B0.out)⟩, ⟨hC_⟩⟩
       rw [if_pos c64] at H
       have c64b0 : ((rd l1 x0) == 0) = true := beq_iff_eq.mpr c64
       have c64b1 : ((rd l1 x0) != 0) = false := bne_eq_false_iff_eq.mpr c64
       clear c64
       replace H := ifI_ H; obtain ⟨c65, H⟩ := H
       have c65b0 : decide (x0 < (x5.length : Int)) = true := decide_eq_true c65
       clear c65
       obtain ⟨y5, i5⟩ : ∃ y_ : List Int, y_ = (x5.set (x0 : Int).toNat 1) := ⟨_, rfl⟩
       replace H : (sleuthref12_byHalves.l1 k2 l0 l1 x4 y1 y5 (wrap64 (x6 + 1)) (wrap64 (x0 + 1))) = some (r1, r2) := by first | (rw [i5]; with_reducible exact H) | (have H2_ := (Option.bind_some _ _).symm.trans H; rw [i5]; with_reducible exact H2_) | (have H2_ := (Option.bind_some _ _).symm.trans H; with_reducible exact H2_) | with_reducible exact H | (rw [i5]; exact H) | exact H
       have Y6 := a_ i5
       clear i5
       have H' := a_ H
       clear H
       have p321 : 0 ≤ (x0 : Int) := of_decide_eq_true hA_
       have q321 : x0 < (l0.length : Int) := of_decide_eq_true hA_
       obtain ⟨d3, A321_2, c321_2, e321, h0, h1, h2, h3, hl321_2, hi321_2⟩ := at_T40 HR0.out x0 p321 q321
       cases e321
       replace h0 := cl_ HB.out h0
       replace h1 := cl_ HB.out h1
       replace h2 := cl_ HB.out h2
       replace h3 := cl_ HB.out h3
       have HR321_2 := a_ hi321_2
       have HC321_2 := a_ hl321_2
       clear hi321_2 hl321_2
       replace p321 := eq_true p321
       replace q321 := eq_true q321
       obtain ⟨a2, o5, e13⟩ := Kd.R_slice O0.out
       subst e13
       have p327 : 0 ≤ (((rd_T40 l0 x0).f1) : Int) := of_decide_eq_true hA_
       have q327 : ((rd_T40 l0 x0).f1) < (x2.length : Int) := of_decide_eq_true hA_
       obtain ⟨d6, e327, h4⟩ := Kd.at_bool (Kd.R_reads' O0.out).2.2 ((rd_T40 l0 x0).f1) p327 q327
       (try rw [← Q0.out] at h4)
       (try rw [← Q1.out] at h4)
       cases e327
       replace p327 := eq_true p327
       replace q327 := eq_true q327
       have p60 : 0 ≤ (x0 : Int) := of_decide_eq_true hA_
       have q60 : (x0 : Int) < ((x2.length : Int) : Int) := of_decide_eq_true hA_
       obtain ⟨j1, o3, e1, g2, gl60, cl60, HG60⟩ := Kd.R_form O0.out (by omega)
       (first | cases e1 | (injection e1 with ea_ en_ ec_; (first | subst ea_ | (injection ea_ with ea_; subst ea_)); subst ec_; clear en_))
       have J1 := a_ g2
       have K1 := a_ HG60
       clear g2 gl60 HG60
       (first | simp only [add_plain] at h4 | skip)
       obtain ⟨h31, hf60_0⟩ := Kd.R_celln false O0.out (x0 : Int) p60 q60
       replace p60 := eq_true p60
       replace q60 := eq_true q60
       have HP68 := Kd.R_putg O0.out (x0 : Int) false
       go_wp2_with (first | ((with_reducible refine gate_store (t := 4) (p := 74) rfl ?_); refine store_event (t := 4) (p := 74) (v := ?vo_w69) (w1 := (wr.setCell ⟨j1, (x0 : Int).toNat, none⟩ (.bool false))) ?hg ?ho ?hn ?hr ?_; (case ho => rfl); (case hg => rfl); (case hn => rfl); (case hr => first | (go_simp; done) | (go_simp; rfl)); intro w2 hw; have hg : wr.grownBy w2 (some j1) := (by rw [hw]; exact HP68.2); have hp_ : Kd.R Kd.bool 4 w2 w.heap.size (fun _ => True) (.slice (some ⟨j1, 0, none⟩) x2.length o5) y1 := (by rw [hw, Y1.out]; exact HP68.1); clear HP68; replace O1 := a_ (Kd.R_over' (v := (.slice (some ⟨j1, 0, none⟩) x2.length o5)) (hR_ O1.out) (Kd.R_typed O0.out) (by decide) hg); replace B0 := a_ (blk_grown (hK_ B0.out) hg (Kd.R_ne O0.out B0.out (by decide))); replace O0 := a_ (hp_); replace HB := a_ ((by rw [hw]; exact below_set (HB.out) J1.out : Below w.heap.size w w2)); clear hg hw hp_; have p334 : 0 ≤ (x0 : Int) := of_decide_eq_true hA_; have q334 : x0 < (y1.length : Int) := (by have h_ : (x0 : Int) < ((x2.length : Int) : Int) := of_decide_eq_true hA_; first | (have e_ := (Kd.R_reads' O0.out).1; omega) | simpa only [Y1.out, List.length_set] using h_); have l5 : ((x0 : Int) < ((x2.length : Int) : Int)) = True := eq_true (of_decide_eq_true hA_); obtain ⟨d7, e334, h5⟩ := Kd.at_bool (Kd.R_reads' O0.out).2.2 x0 p334 q334; (try rw [← Q0.out] at h5); (try rw [← Q1.out] at h5); obtain rfl : (⟨j1, 0, none⟩ : Addr) = d7 := (by injection e334); (first | simp only [add_plain] at h5 | simp only [add_at] at h5 | simp only [Addr.add, Nat.zero_add] at h5 | skip); replace p334 := eq_true p334; replace q334 := eq_true q334; have p335 : 0 ≤ (x0 : Int) := of_decide_eq_true hA_; have q335 : x0 < (l1.length : Int) := of_decide_eq_true hA_; obtain ⟨d13, e335, h13⟩ := Kd.at_int HR1.out x0 p335 q335; obtain rfl : d0 = d13 := (by injection e335); replace h13 := cl_ HB.out h13; replace p335 := eq_true p335; replace q335 := eq_true q335; have p66 : 0 ≤ (x0 : Int) := of_decide_eq_true hA_; have q66 : (x0 : Int) < ((x5.length : Int) : Int) := of_decide_eq_true hA_; obtain ⟨j5, o6, e4, g5, gl66, cl66, HG66⟩ := Kd.R_form O1.out (by omega); (first | cases e4 | (injection e4 with ea_ en_ ec_; (first | subst ea_ | (injection ea_ with ea_; subst ea_)); subst ec_; clear en_)); have J4 := a_ g5; have K5 := a_ HG66; clear g5 gl66 HG66; obtain ⟨h38, hf66_0⟩ := Kd.R_celln 0 O1.out (x0 : Int) p66 q66; replace p66 := eq_true p66; replace q66 := eq_true q66; obtain ⟨hy70_, hz70_⟩ := Kd.R_celln 0 O1.out (x0 : Int) (of_decide_eq_true hA_) (of_decide_eq_true hA_); have HP70 := Kd.R_putg O1.out (x0 : Int) 1) | ((with_reducible refine gate_store (t := 3) (p := 88) rfl ?_); refine store_event (t := 3) (p := 88) (v := ?vo_w71) (w1 := (w2.setCell ⟨j5, (x0 : Int).toNat, none⟩ (.int .i64 1))) ?hg ?ho ?hn ?hr ?_; (case ho => rfl); (case hg => rfl); (case hn => rfl); (case hr => first | (go_simp; done) | (go_simp; rfl)); intro w71 hw; have hg : w2.grownBy w71 (some j5) := (by rw [hw]; exact HP70.2); have hp_ : Kd.R (Kd.int .i64) 3 w71 w.heap.size (fun _ => True) (.slice (some ⟨j5, 0, none⟩) x5.length o6) y5 := (by rw [hw, Y6.out]; exact HP70.1); clear HP70; replace O0 := a_ (Kd.R_over' (v := (.slice (some ⟨j5, 0, none⟩) x5.length o6)) (hR_ O0.out) (Kd.R_typed O1.out) (by decide) hg); replace B0 := a_ (blk_grown (hK_ B0.out) hg (Kd.R_ne O1.out B0.out (by decide))); replace O1 := a_ (hp_); replace HB := a_ ((by rw [hw]; exact below_set (HB.out) J4.out : Below w.heap.size w w71)); clear hg hw hp_))
       go_roundg k2
       case measure => have := HK1.out; have := HK2.out; omega
       case rel => exact ⟨(y1), (y5), (wrap64 (x6 + 1)), (wrap64 (x0 + 1)), hW_, hW_, H', ⟨by have := HK1.out; have := HK2.out; omega⟩, ⟨hR_ O0.out⟩, ⟨hR_ O1.out⟩, ⟨(hK_ B0.out)⟩, ⟨hC_⟩⟩
      subst c39
      rw [if_pos rfl] at H
      replace H := ifI_ H; obtain ⟨c40, H⟩ := H
      have c40b0 : decide (x0 < (l1.length : Int)) = true := decide_eq_true c40
      clear c40
      replace H := ifI_ H; obtain ⟨c41, H⟩ := H
      have c41b0 : decide (x0 < (x2.length : Int)) = true := decide_eq_true c41
      clear c41
      obtain ⟨y0, i6⟩ : ∃ y_ : List Bool, y_ = (x2.set (x0 : Int).toNat ((rd l1 x0) != 1)) := ⟨_, rfl⟩
      replace H : (if rdOf false y0 x0 = true then (if (rd l1 x0) = 0 then (if x0 < (x5.length : Int) then (sleuthref12_byHalves.l1 k2 l0 l1 x4 y0 (x5.set (x0 : Int).toNat 1) (wrap64 (x6 + 1)) (wrap64 (x0 + 1))) else (none)) else (sleuthref12_byHalves.l1 k2 l0 l1 x4 y0 x5 x6 (wrap64 (x0 + 1)))) else (sleuthref12_byHalves.l1 k2 l0 l1 x4 y0 x5 x6 (wrap64 (x0 + 1)))) = some (r1, r2) := by first | (rw [i6]; with_reducible exact H) | (have H2_ := (Option.bind_some _ _).symm.trans H; rw [i6]; with_reducible exact H2_) | (have H2_ := (Option.bind_some _ _).symm.trans H; with_reducible exact H2_) | with_reducible exact H | (rw [i6]; exact H) | exact H
      have Y2 := a_ i6
      clear i6
      obtain ⟨bq43, hbq43⟩ : ∃ b_ : Bool, b_ = (rdOf false y0 x0) := ⟨_, rfl⟩
      replace H : (if bq43 = true then (if (rd l1 x0) = 0 then (if x0 < (x5.length : Int) then (sleuthref12_byHalves.l1 k2 l0 l1 x4 y0 (x5.set (x0 : Int).toNat 1) (wrap64 (x6 + 1)) (wrap64 (x0 + 1))) else (none)) else (sleuthref12_byHalves.l1 k2 l0 l1 x4 y0 x5 x6 (wrap64 (x0 + 1)))) else (sleuthref12_byHalves.l1 k2 l0 l1 x4 y0 x5 x6 (wrap64 (x0 + 1)))) = some (r1, r2) := by rw [← hbq43] at H; exact H
      have Q2 := a_ hbq43
      clear hbq43
      by_cases c44 : bq43 = true
      case neg =>
       replace c44 := Bool.eq_false_iff.mpr c44
       subst c44
       rw [if_neg (show ¬ (false = true) by decide)] at H
       have H' := a_ H
       clear H
       have p321 : 0 ≤ (x0 : Int) := of_decide_eq_true hA_
       have q321 : x0 < (l0.length : Int) := of_decide_eq_true hA_
       obtain ⟨d3, A321_2, c321_2, e321, h0, h1, h2, h3, hl321_2, hi321_2⟩ := at_T40 HR0.out x0 p321 q321
       cases e321
       replace h0 := cl_ HB.out h0
       replace h1 := cl_ HB.out h1
       replace h2 := cl_ HB.out h2
       replace h3 := cl_ HB.out h3
       have HR321_2 := a_ hi321_2
       have HC321_2 := a_ hl321_2
       clear hi321_2 hl321_2
       replace p321 := eq_true p321
       replace q321 := eq_true q321
       obtain ⟨a3, o7, e14⟩ := Kd.R_slice O0.out
       subst e14
       have p327 : 0 ≤ (((rd_T40 l0 x0).f1) : Int) := of_decide_eq_true hA_
       have q327 : ((rd_T40 l0 x0).f1) < (x2.length : Int) := of_decide_eq_true hA_
       obtain ⟨d6, e327, h4⟩ := Kd.at_bool (Kd.R_reads' O0.out).2.2 ((rd_T40 l0 x0).f1) p327 q327
       (try rw [← Q0.out] at h4)
       (try rw [← Q2.out] at h4)
       cases e327
       replace p327 := eq_true p327
       replace q327 := eq_true q327
       have p328 : 0 ≤ (x0 : Int) := of_decide_eq_true hA_
       have q328 : x0 < (l1.length : Int) := of_decide_eq_true hA_
       obtain ⟨d8, e328, h10⟩ := Kd.at_int HR1.out x0 p328 q328
       obtain rfl : d0 = d8 := (by injection e328)
       replace h10 := cl_ HB.out h10
       replace p328 := eq_true p328
       replace q328 := eq_true q328
       have p42 : 0 ≤ (x0 : Int) := of_decide_eq_true hA_
       have q42 : (x0 : Int) < ((x2.length : Int) : Int) := of_decide_eq_true hA_
       obtain ⟨j2, o8, e2, g3, gl42, cl42, HG42⟩ := Kd.R_form O0.out (by omega)
       (first | cases e2 | (injection e2 with ea_ en_ ec_; (first | subst ea_ | (injection ea_ with ea_; subst ea_)); subst ec_; clear en_))
       have J2 := a_ g3
       have K2 := a_ HG42
       clear g3 gl42 HG42
       (first | simp only [add_plain] at h4 | skip)
       obtain ⟨h32, hf42_0⟩ := Kd.R_celln false O0.out (x0 : Int) p42 q42
       replace p42 := eq_true p42
       replace q42 := eq_true q42
       have HP57 := Kd.R_putg O0.out (x0 : Int) ((rd l1 x0) != 1)
       go_wp2_with (first | ((with_reducible refine gate_store (t := 4) (p := 74) rfl ?_); refine store_event (t := 4) (p := 74) (v := ?vo_w58) (w1 := (wr.setCell ⟨j2, (x0 : Int).toNat, none⟩ (.bool ((rd l1 x0) != 1)))) ?hg ?ho ?hn ?hr ?_; (case ho => rfl); (case hg => rfl); (case hn => rfl); (case hr => first | (go_simp; done) | (go_simp; rfl)); intro w58 hw; have hg : wr.grownBy w58 (some j2) := (by rw [hw]; exact HP57.2); have hp_ : Kd.R Kd.bool 4 w58 w.heap.size (fun _ => True) (.slice (some ⟨j2, 0, none⟩) x2.length o7) y0 := (by rw [hw, Y2.out]; exact HP57.1); clear HP57; replace O1 := a_ (Kd.R_over' (v := (.slice (some ⟨j2, 0, none⟩) x2.length o7)) (hR_ O1.out) (Kd.R_typed O0.out) (by decide) hg); replace B0 := a_ (blk_grown (hK_ B0.out) hg (Kd.R_ne O0.out B0.out (by decide))); replace O0 := a_ (hp_); replace HB := a_ ((by rw [hw]; exact below_set (HB.out) J2.out : Below w.heap.size w w58)); clear hg hw hp_; have p330 : 0 ≤ (x0 : Int) := of_decide_eq_true hA_; have q330 : x0 < (y0.length : Int) := (by have h_ : (x0 : Int) < ((x2.length : Int) : Int) := of_decide_eq_true hA_; first | (have e_ := (Kd.R_reads' O0.out).1; omega) | simpa only [Y2.out, List.length_set] using h_); have l6 : ((x0 : Int) < ((x2.length : Int) : Int)) = True := eq_true (of_decide_eq_true hA_); obtain ⟨d9, e330, h6⟩ := Kd.at_bool (Kd.R_reads' O0.out).2.2 x0 p330 q330; (try rw [← Q0.out] at h6); (try rw [← Q2.out] at h6); obtain rfl : (⟨j2, 0, none⟩ : Addr) = d9 := (by injection e330); (first | simp only [add_plain] at h6 | simp only [add_at] at h6 | simp only [Addr.add, Nat.zero_add] at h6 | skip); replace p330 := eq_true p330; replace q330 := eq_true q330))
       go_roundg k2
       case measure => have := HK1.out; have := HK2.out; omega
       case rel => exact ⟨(y0), (x5), (x6), (wrap64 (x0 + 1)), hW_, hW_, H', ⟨by have := HK1.out; have := HK2.out; omega⟩, ⟨hR_ O0.out⟩, ⟨hR_ O1.out⟩, ⟨(hK_ B0.out)⟩, ⟨hC_⟩⟩
      subst c44
      rw [if_pos rfl] at H
      by_cases c45 : (rd l1 x0) = 0
      case neg =>
       rw [if_neg c45] at H
       have c45b0 : ((rd l1 x0) == 0) = false := beq_eq_false_iff_ne.mpr c45
       have c45b1 : ((rd l1 x0) != 0) = true := bne_iff_ne.mpr c45
       have H' := a_ H
       clear H
       have p321 : 0 ≤ (x0 : Int) := of_decide_eq_true hA_
       have q321 : x0 < (l0.length : Int) := of_decide_eq_true hA_
       obtain ⟨d3, A321_2, c321_2, e321, h0, h1, h2, h3, hl321_2, hi321_2⟩ := at_T40 HR0.out x0 p321 q321
       cases e321
       replace h0 := cl_ HB.out h0
       replace h1 := cl_ HB.out h1
       replace h2 := cl_ HB.out h2
       replace h3 := cl_ HB.out h3
       have HR321_2 := a_ hi321_2
       have HC321_2 := a_ hl321_2
       clear hi321_2 hl321_2
       replace p321 := eq_true p321
       replace q321 := eq_true q321
       obtain ⟨a4, o9, e15⟩ := Kd.R_slice O0.out
       subst e15
       have p327 : 0 ≤ (((rd_T40 l0 x0).f1) : Int) := of_decide_eq_true hA_
       have q327 : ((rd_T40 l0 x0).f1) < (x2.length : Int) := of_decide_eq_true hA_
       obtain ⟨d6, e327, h4⟩ := Kd.at_bool (Kd.R_reads' O0.out).2.2 ((rd_T40 l0 x0).f1) p327 q327
       (try rw [← Q0.out] at h4)
       (try rw [← Q2.out] at h4)
       cases e327
       replace p327 := eq_true p327
       replace q327 := eq_true q327
       have p328 : 0 ≤ (x0 : Int) := of_decide_eq_true hA_
       have q328 : x0 < (l1.length : Int) := of_decide_eq_true hA_
       obtain ⟨d8, e328, h10⟩ := Kd.at_int HR1.out x0 p328 q328
       obtain rfl : d0 = d8 := (by injection e328)
       replace h10 := cl_ HB.out h10
       replace p328 := eq_true p328
       replace q328 := eq_true q328
       have p42 : 0 ≤ (x0 : Int) := of_decide_eq_true hA_
       have q42 : (x0 : Int) < ((x2.length : Int) : Int) := of_decide_eq_true hA_
       obtain ⟨j2, o8, e2, g3, gl42, cl42, HG42⟩ := Kd.R_form O0.out (by omega)
       (first | cases e2 | (injection e2 with ea_ en_ ec_; (first | subst ea_ | (injection ea_ with ea_; subst ea_)); subst ec_; clear en_))
       have J2 := a_ g3
       have K2 := a_ HG42
       clear g3 gl42 HG42
       (first | simp only [add_plain] at h4 | skip)
       obtain ⟨h32, hf42_0⟩ := Kd.R_celln false O0.out (x0 : Int) p42 q42
       replace p42 := eq_true p42
       replace q42 := eq_true q42
       have HP54 := Kd.R_putg O0.out (x0 : Int) ((rd l1 x0) != 1)
       go_wp2_with (first | ((with_reducible refine gate_store (t := 4) (p := 74) rfl ?_); refine store_event (t := 4) (p := 74) (v := ?vo_w55) (w1 := (wr.setCell ⟨j2, (x0 : Int).toNat, none⟩ (.bool ((rd l1 x0) != 1)))) ?hg ?ho ?hn ?hr ?_; (case ho => rfl); (case hg => rfl); (case hn => rfl); (case hr => first | (go_simp; done) | (go_simp; rfl)); intro w55 hw; have hg : wr.grownBy w55 (some j2) := (by rw [hw]; exact HP54.2); have hp_ : Kd.R Kd.bool 4 w55 w.heap.size (fun _ => True) (.slice (some ⟨j2, 0, none⟩) x2.length o9) y0 := (by rw [hw, Y2.out]; exact HP54.1); clear HP54; replace O1 := a_ (Kd.R_over' (v := (.slice (some ⟨j2, 0, none⟩) x2.length o9)) (hR_ O1.out) (Kd.R_typed O0.out) (by decide) hg); replace B0 := a_ (blk_grown (hK_ B0.out) hg (Kd.R_ne O0.out B0.out (by decide))); replace O0 := a_ (hp_); replace HB := a_ ((by rw [hw]; exact below_set (HB.out) J2.out : Below w.heap.size w w55)); clear hg hw hp_; have p330 : 0 ≤ (x0 : Int) := of_decide_eq_true hA_; have q330 : x0 < (y0.length : Int) := (by have h_ : (x0 : Int) < ((x2.length : Int) : Int) := of_decide_eq_true hA_; first | (have e_ := (Kd.R_reads' O0.out).1; omega) | simpa only [Y2.out, List.length_set] using h_); have l6 : ((x0 : Int) < ((x2.length : Int) : Int)) = True := eq_true (of_decide_eq_true hA_); obtain ⟨d9, e330, h6⟩ := Kd.at_bool (Kd.R_reads' O0.out).2.2 x0 p330 q330; (try rw [← Q0.out] at h6); (try rw [← Q2.out] at h6); obtain rfl : (⟨j2, 0, none⟩ : Addr) = d9 := (by injection e330); (first | simp only [add_plain] at h6 | simp only [add_at] at h6 | simp only [Addr.add, Nat.zero_add] at h6 | skip); replace p330 := eq_true p330; replace q330 := eq_true q330; have p331 : 0 ≤ (x0 : Int) := of_decide_eq_true hA_; have q331 : x0 < (l1.length : Int) := of_decide_eq_true hA_; obtain ⟨d14, e331, h14⟩ := Kd.at_int HR1.out x0 p331 q331; obtain rfl : d0 = d14 := (by injection e331); replace h14 := cl_ HB.out h14; replace p331 := eq_true p331; replace q331 := eq_true q331))
       go_roundg k2
       case measure => have := HK1.out; have := HK2.out; omega
       case rel => exact ⟨(y0), (x5), (x6), (wrap64 (x0 + 1)), hW_, hW_, H', ⟨by have := HK1.out; have := HK2.out; omega⟩, ⟨hR_ O0.out⟩, ⟨hR_ O1.out⟩, ⟨(hK_ B0.out)⟩, ⟨hC_⟩⟩
      rw [if_pos c45] at H
      have c45b0 : ((rd l1 x0) == 0) = true := beq_iff_eq.mpr c45
      have c45b1 : ((rd l1 x0) != 0) = false := bne_eq_false_iff_eq.mpr c45
      clear c45
      replace H := ifI_ H; obtain ⟨c46, H⟩ := H
      have c46b0 : decide (x0 < (x5.length : Int)) = true := decide_eq_true c46
      clear c46
      obtain ⟨y6, i7⟩ : ∃ y_ : List Int, y_ = (x5.set (x0 : Int).toNat 1) := ⟨_, rfl⟩
      replace H : (sleuthref12_byHalves.l1 k2 l0 l1 x4 y0 y6 (wrap64 (x6 + 1)) (wrap64 (x0 + 1))) = some (r1, r2) := by first | (rw [i7]; with_reducible exact H) | (have H2_ := (Option.bind_some _ _).symm.trans H; rw [i7]; with_reducible exact H2_) | (have H2_ := (Option.bind_some _ _).symm.trans H; with_reducible exact H2_) | with_reducible exact H | (rw [i7]; exact H) | exact H
      have Y7 := a_ i7
      clear i7
      have H' := a_ H
      clear H
      have p321 : 0 ≤ (x0 : Int) := of_decide_eq_true hA_
      have q321 : x0 < (l0.length : Int) := of_decide_eq_true hA_
      obtain ⟨d3, A321_2, c321_2, e321, h0, h1, h2, h3, hl321_2, hi321_2⟩ := at_T40 HR0.out x0 p321 q321
      cases e321
      replace h0 := cl_ HB.out h0
      replace h1 := cl_ HB.out h1
      replace h2 := cl_ HB.out h2
      replace h3 := cl_ HB.out h3
      have HR321_2 := a_ hi321_2
      have HC321_2 := a_ hl321_2
      clear hi321_2 hl321_2
      replace p321 := eq_true p321
      replace q321 := eq_true q321
      obtain ⟨a5, o10, e16⟩ := Kd.R_slice O0.out
      subst e16
      have p327 : 0 ≤ (((rd_T40 l0 x0).f1) : Int) := of_decide_eq_true hA_
      have q327 : ((rd_T40 l0 x0).f1) < (x2.length : Int) := of_decide_eq_true hA_
      obtain ⟨d6, e327, h4⟩ := Kd.at_bool (Kd.R_reads' O0.out).2.2 ((rd_T40 l0 x0).f1) p327 q327
      (try rw [← Q0.out] at h4)
      (try rw [← Q2.out] at h4)
      cases e327
      replace p327 := eq_true p327
      replace q327 := eq_true q327
      have p328 : 0 ≤ (x0 : Int) := of_decide_eq_true hA_
      have q328 : x0 < (l1.length : Int) := of_decide_eq_true hA_
      obtain ⟨d8, e328, h10⟩ := Kd.at_int HR1.out x0 p328 q328
      obtain rfl : d0 = d8 := (by injection e328)
      replace h10 := cl_ HB.out h10
      replace p328 := eq_true p328
      replace q328 := eq_true q328
      have p42 : 0 ≤ (x0 : Int) := of_decide_eq_true hA_
      have q42 : (x0 : Int) < ((x2.length : Int) : Int) := of_decide_eq_true hA_
      obtain ⟨j2, o8, e2, g3, gl42, cl42, HG42⟩ := Kd.R_form O0.out (by omega)
      (first | cases e2 | (injection e2 with ea_ en_ ec_; (first | subst ea_ | (injection ea_ with ea_; subst ea_)); subst ec_; clear en_))
      have J2 := a_ g3
      have K2 := a_ HG42
      clear g3 gl42 HG42
      (first | simp only [add_plain] at h4 | skip)
      obtain ⟨h32, hf42_0⟩ := Kd.R_celln false O0.out (x0 : Int) p42 q42
      replace p42 := eq_true p42
      replace q42 := eq_true q42
      have HP49 := Kd.R_putg O0.out (x0 : Int) ((rd l1 x0) != 1)
      go_wp2_with (first | ((with_reducible refine gate_store (t := 4) (p := 74) rfl ?_); refine store_event (t := 4) (p := 74) (v := ?vo_w50) (w1 := (wr.setCell ⟨j2, (x0 : Int).toNat, none⟩ (.bool ((rd l1 x0) != 1)))) ?hg ?ho ?hn ?hr ?_; (case ho => rfl); (case hg => rfl); (case hn => rfl); (case hr => first | (go_simp; done) | (go_simp; rfl)); intro w3 hw; have hg : wr.grownBy w3 (some j2) := (by rw [hw]; exact HP49.2); have hp_ : Kd.R Kd.bool 4 w3 w.heap.size (fun _ => True) (.slice (some ⟨j2, 0, none⟩) x2.length o10) y0 := (by rw [hw, Y2.out]; exact HP49.1); clear HP49; replace O1 := a_ (Kd.R_over' (v := (.slice (some ⟨j2, 0, none⟩) x2.length o10)) (hR_ O1.out) (Kd.R_typed O0.out) (by decide) hg); replace B0 := a_ (blk_grown (hK_ B0.out) hg (Kd.R_ne O0.out B0.out (by decide))); replace O0 := a_ (hp_); replace HB := a_ ((by rw [hw]; exact below_set (HB.out) J2.out : Below w.heap.size w w3)); clear hg hw hp_; have p330 : 0 ≤ (x0 : Int) := of_decide_eq_true hA_; have q330 : x0 < (y0.length : Int) := (by have h_ : (x0 : Int) < ((x2.length : Int) : Int) := of_decide_eq_true hA_; first | (have e_ := (Kd.R_reads' O0.out).1; omega) | simpa only [Y2.out, List.length_set] using h_); have l6 : ((x0 : Int) < ((x2.length : Int) : Int)) = True := eq_true (of_decide_eq_true hA_); obtain ⟨d9, e330, h6⟩ := Kd.at_bool (Kd.R_reads' O0.out).2.2 x0 p330 q330; (try rw [← Q0.out] at h6); (try rw [← Q2.out] at h6); obtain rfl : (⟨j2, 0, none⟩ : Addr) = d9 := (by injection e330); (first | simp only [add_plain] at h6 | simp only [add_at] at h6 | simp only [Addr.add, Nat.zero_add] at h6 | skip); replace p330 := eq_true p330; replace q330 := eq_true q330; have p331 : 0 ≤ (x0 : Int) := of_decide_eq_true hA_; have q331 : x0 < (l1.length : Int) := of_decide_eq_true hA_; obtain ⟨d14, e331, h14⟩ := Kd.at_int HR1.out x0 p331 q331; obtain rfl : d0 = d14 := (by injection e331); replace h14 := cl_ HB.out h14; replace p331 := eq_true p331; replace q331 := eq_true q331; have p47 : 0 ≤ (x0 : Int) := of_decide_eq_true hA_; have q47 : (x0 : Int) < ((x5.length : Int) : Int) := of_decide_eq_true hA_; obtain ⟨j6, o11, e5, g6, gl47, cl47, HG47⟩ := Kd.R_form O1.out (by omega); (first | cases e5 | (injection e5 with ea_ en_ ec_; (first | subst ea_ | (injection ea_ with ea_; subst ea_)); subst ec_; clear en_)); have J5 := a_ g6; have K6 := a_ HG47; clear g6 gl47 HG47; obtain ⟨h39, hf47_0⟩ := Kd.R_celln 0 O1.out (x0 : Int) p47 q47; replace p47 := eq_true p47; replace q47 := eq_true q47; obtain ⟨hy51_, hz51_⟩ := Kd.R_celln 0 O1.out (x0 : Int) (of_decide_eq_true hA_) (of_decide_eq_true hA_); have HP51 := Kd.R_putg O1.out (x0 : Int) 1) | ((with_reducible refine gate_store (t := 3) (p := 88) rfl ?_); refine store_event (t := 3) (p := 88) (v := ?vo_w52) (w1 := (w3.setCell ⟨j6, (x0 : Int).toNat, none⟩ (.int .i64 1))) ?hg ?ho ?hn ?hr ?_; (case ho => rfl); (case hg => rfl); (case hn => rfl); (case hr => first | (go_simp; done) | (go_simp; rfl)); intro w52 hw; have hg : w3.grownBy w52 (some j6) := (by rw [hw]; exact HP51.2); have hp_ : Kd.R (Kd.int .i64) 3 w52 w.heap.size (fun _ => True) (.slice (some ⟨j6, 0, none⟩) x5.length o11) y6 := (by rw [hw, Y7.out]; exact HP51.1); clear HP51; replace O0 := a_ (Kd.R_over' (v := (.slice (some ⟨j6, 0, none⟩) x5.length o11)) (hR_ O0.out) (Kd.R_typed O1.out) (by decide) hg); replace B0 := a_ (blk_grown (hK_ B0.out) hg (Kd.R_ne O1.out B0.out (by decide))); replace O1 := a_ (hp_); replace HB := a_ ((by rw [hw]; exact below_set (HB.out) J5.out : Below w.heap.size w w52)); clear hg hw hp_))
      go_roundg k2
      case measure => have := HK1.out; have := HK2.out; omega
      case rel => exact ⟨(y0), (y6), (wrap64 (x6 + 1)), (wrap64 (x0 + 1)), hW_, hW_, H', ⟨by have := HK1.out; have := HK2.out; omega⟩, ⟨hR_ O0.out⟩, ⟨hR_ O1.out⟩, ⟨(hK_ B0.out)⟩, ⟨hC_⟩⟩
     rw [if_neg c17] at H
     have c17b0 : decide (x0 < (l0.length : Int)) = false := decide_eq_false c17
     clear c17
     have H' := a_ H
     clear H
     go_wp2
     go_loopg [12] k2 (fun kq v3 w' => ∃ (x7 : List Int) (x1 : Int), v3 = .int .i64 x1 ∧ Aside0 (sleuthref12_byHalves.l2 kq l0 l1 x4 x2 x7 x6 x1 = some (r1, r2)) ∧ Aside0 (kq ≤ k2) ∧ Aside0 (Kd.R Kd.bool 4 w' w.heap.size (fun _ => True) v0 x2) ∧ Aside0 (Kd.R (Kd.int .i64) 3 w' w.heap.size (fun _ => True) v1 x7) ∧ Aside0 (w'.heap[g0]? = some (.cells #[.int .i64 0, .int .i64 0] 27 (0, 0))) ∧ Aside0 (Below w.heap.size w w'))
     case atStart => exact ⟨(x5), (wrap64 ((l0.length : Int) - 1)), hW_, H', ⟨Nat.le_refl _⟩, ⟨hR_ O0.out⟩, ⟨hR_ O1.out⟩, ⟨(hK_ B0.out)⟩, ⟨hC_⟩⟩
     case round =>
      clear H'
      try clear c1
      try clear c2
      try clear p2
      try clear q2
      try clear hx2
      try clear hf2
      try clear c3
      try clear p3
      try clear q3
      try clear hx3
      try clear c4
      try clear p4
      try clear q4
      try clear hx4
      try clear hf4
      try clear c5
      try clear c6
      try clear p6
      try clear q6
      try clear hx6
      try clear hf6
      try clear c17
      try clear c17b0
      try clear c18
      try clear c18b0
      try clear c19
      try clear c19b0
      try clear c19b1
      try clear c20
      try clear c20b0
      try clear c21
      try clear c21b0
      try clear p22
      try clear q22
      try clear h42
      try clear hf22
      try clear q23
      try clear c24
      try clear c25
      try clear c25b0
      try clear c25b1
      try clear c26
      try clear c26b0
      try clear p27
      try clear q27
      try clear h43
      try clear hf27
      try clear p31
      try clear q31
      try clear h44
      try clear c32
      try clear p32
      try clear q32
      try clear h45
      try clear p33
      try clear q33
      try clear h46
      try clear c36
      try clear c36b0
      try clear c37
      try clear c37b0
      try clear q38
      try clear c39
      try clear c40
      try clear c40b0
      try clear c41
      try clear c41b0
      try clear p42
      try clear q42
      try clear h47
      try clear hf42
      try clear q43
      try clear c44
      try clear c45
      try clear c45b0
      try clear c45b1
      try clear c46
      try clear c46b0
      try clear p47
      try clear q47
      try clear h48
      try clear hf47
      try clear c59
      try clear c59b0
      try clear p60
      try clear q60
      try clear h49
      try clear hf60
      try clear q61
      try clear c62
      try clear c63
      try clear c63b0
      try clear c64
      try clear c64b0
      try clear c64b1
      try clear p64
      try clear c65
      try clear c65b0
      try clear p66
      try clear q66
      try clear h50
      try clear hf66
      try clear h30
      try clear h37
      try clear h8
      try clear h11
      try clear h0
      try clear h1
      try clear h2
      try clear h3
      try clear h9
      try clear h7
      try clear h12
      try clear h4
      try clear h10
      try clear h6
      try clear h14
      try clear h5
      try clear h13
      try clear h32
      try clear h39
      try clear h31
      try clear h38
      try clear p2
      try clear p22
      try clear p27
      try clear p3
      try clear p310
      try clear p314
      try clear p321
      try clear p322
      try clear p324
      try clear p325
      try clear p327
      try clear p328
      try clear p330
      try clear p331
      try clear p334
      try clear p335
      try clear p42
      try clear p47
      try clear p60
      try clear p66
      try clear q22
      try clear q27
      try clear q3
      try clear q310
      try clear q314
      try clear q321
      try clear q322
      try clear q324
      try clear q325
      try clear q327
      try clear q328
      try clear q330
      try clear q331
      try clear q334
      try clear q335
      try clear q42
      try clear q47
      try clear q60
      try clear q66
      obtain ⟨x7, x1, rfl, HA, HK3, O0, O1, B0, HB⟩ := hrel
      cases gk with
      | zero => exact absurd HA.out (by simp [sleuthref12_byHalves.l2])
      | succ k3 =>
       have H := HA.out
       clear HA
       simp only [sleuthref12_byHalves.l2] at H
       by_cases c78 : x1 > x4
       case pos =>
        rw [if_pos c78] at H
        have c78b0 : decide (x4 < x1) = true := decide_eq_true c78
        clear c78
        replace H := ifI_ H; obtain ⟨c79, H⟩ := H
        have c79b0 : decide (0 ≤ x1) = true := decide_eq_true c79
        clear c79
        replace H := ifI_ H; obtain ⟨c80, H⟩ := H
        have c80b0 : decide (x1 < (x2.length : Int)) = true := decide_eq_true c80
        clear c80
        obtain ⟨bq81, hbq81⟩ : ∃ b_ : Bool, b_ = (rdOf false x2 x1) := ⟨_, rfl⟩
        replace H : (if bq81 = true then (if x1 < (l0.length : Int) then (if ((rd_T40 l0 x1).f1) > x4 then (if 0 ≤ ((rd_T40 l0 x1).f1) then (if ((rd_T40 l0 x1).f1) < (x7.length : Int) then (if x1 < (x7.length : Int) then (sleuthref12_byHalves.l2 k3 l0 l1 x4 x2 (x7.set (((rd_T40 l0 x1).f1) : Int).toNat (wrap64 ((rd x7 ((rd_T40 l0 x1).f1)) + (rd x7 x1)))) x6 (wrap64 (x1 - 1))) else (none)) else (none)) else (none)) else (sleuthref12_byHalves.l2 k3 l0 l1 x4 x2 x7 x6 (wrap64 (x1 - 1)))) else (none)) else (sleuthref12_byHalves.l2 k3 l0 l1 x4 x2 x7 x6 (wrap64 (x1 - 1)))) = some (r1, r2) := by rw [← hbq81] at H; exact H
        have Q4 := a_ hbq81
        clear hbq81
        by_cases c82 : bq81 = true
        case neg =>
         replace c82 := Bool.eq_false_iff.mpr c82
         subst c82
         rw [if_neg (show ¬ (false = true) by decide)] at H
         have H' := a_ H
         clear H
         obtain ⟨a6, o12, e17⟩ := Kd.R_slice O0.out
         subst e17
         have p337 : 0 ≤ (x1 : Int) := of_decide_eq_true hA_
         have q337 : x1 < (x2.length : Int) := of_decide_eq_true hA_
         obtain ⟨d15, e337, h17⟩ := Kd.at_bool (Kd.R_reads' O0.out).2.2 x1 p337 q337
         (try rw [← Q4.out] at h17)
         cases e337
         replace p337 := eq_true p337
         replace q337 := eq_true q337
         go_wp2
         go_roundg k3
         case measure => have := HK1.out; have := HK2.out; have := HK3.out; omega
         case rel => exact ⟨(x7), (wrap64 (x1 - 1)), hW_, H', ⟨by have := HK1.out; have := HK2.out; have := HK3.out; omega⟩, ⟨hR_ O0.out⟩, ⟨hR_ O1.out⟩, ⟨(hK_ B0.out)⟩, ⟨hC_⟩⟩
        subst c82
        rw [if_pos rfl] at H
        replace H := ifI_ H; obtain ⟨c83, H⟩ := H
        have c83b0 : decide (x1 < (l0.length : Int)) = true := decide_eq_true c83
        clear c83
        by_cases c84 : ((rd_T40 l0 x1).f1) > x4
        case neg =>
         rw [if_neg c84] at H
         have c84b0 : decide (x4 < ((rd_T40 l0 x1).f1)) = false := decide_eq_false c84
         clear c84
         have H' := a_ H
         clear H
         obtain ⟨a7, o13, e18⟩ := Kd.R_slice O0.out
         subst e18
         have p337 : 0 ≤ (x1 : Int) := of_decide_eq_true hA_
         have q337 : x1 < (x2.length : Int) := of_decide_eq_true hA_
         obtain ⟨d15, e337, h17⟩ := Kd.at_bool (Kd.R_reads' O0.out).2.2 x1 p337 q337
         (try rw [← Q4.out] at h17)
         cases e337
         replace p337 := eq_true p337
         replace q337 := eq_true q337
         have p338 : 0 ≤ (x1 : Int) := of_decide_eq_true hA_
         have q338 : x1 < (l0.length : Int) := of_decide_eq_true hA_
         obtain ⟨d1, A338_2, c338_2, e338, h18, h19, h20, h21, hl338_2, hi338_2⟩ := at_T40 HR0.out x1 p338 q338
         cases e338
         replace h18 := cl_ HB.out h18
         replace h19 := cl_ HB.out h19
         replace h20 := cl_ HB.out h20
         replace h21 := cl_ HB.out h21
         have HR338_2 := a_ hi338_2
         have HC338_2 := a_ hl338_2
         clear hi338_2 hl338_2
         replace p338 := eq_true p338
         replace q338 := eq_true q338
         go_wp2
         go_roundg k3
         case measure => have := HK1.out; have := HK2.out; have := HK3.out; omega
         case rel => exact ⟨(x7), (wrap64 (x1 - 1)), hW_, H', ⟨by have := HK1.out; have := HK2.out; have := HK3.out; omega⟩, ⟨hR_ O0.out⟩, ⟨hR_ O1.out⟩, ⟨(hK_ B0.out)⟩, ⟨hC_⟩⟩
        rw [if_pos c84] at H
        have c84b0 : decide (x4 < ((rd_T40 l0 x1).f1)) = true := decide_eq_true c84
        clear c84
        replace H := ifI_ H; obtain ⟨c85, H⟩ := H
        have c85b0 : decide (0 ≤ ((rd_T40 l0 x1).f1)) = true := decide_eq_true c85
        clear c85
        replace H := ifI_ H; obtain ⟨c86, H⟩ := H
        have c86b0 : decide (((rd_T40 l0 x1).f1) < (x7.length : Int)) = true := decide_eq_true c86
        clear c86
        replace H := ifI_ H; obtain ⟨c87, H⟩ := H
        have c87b0 : decide (x1 < (x7.length : Int)) = true := decide_eq_true c87
        clear c87
        obtain ⟨y8, i8⟩ : ∃ y_ : List Int, y_ = (x7.set (((rd_T40 l0 x1).f1) : Int).toNat (wrap64 ((rd x7 ((rd_T40 l0 x1).f1)) + (rd x7 x1)))) := ⟨_, rfl⟩
        replace H : (sleuthref12_byHalves.l2 k3 l0 l1 x4 x2 y8 x6 (wrap64 (x1 - 1))) = some (r1, r2) := by first | (rw [i8]; with_reducible exact H) | (have H2_ := (Option.bind_some _ _).symm.trans H; rw [i8]; with_reducible exact H2_) | (have H2_ := (Option.bind_some _ _).symm.trans H; with_reducible exact H2_) | with_reducible exact H | (rw [i8]; exact H) | exact H
        have Y8 := a_ i8
        clear i8
        have H' := a_ H
        clear H
        obtain ⟨a8, o14, e19⟩ := Kd.R_slice O0.out
        subst e19
        have p337 : 0 ≤ (x1 : Int) := of_decide_eq_true hA_
        have q337 : x1 < (x2.length : Int) := of_decide_eq_true hA_
        obtain ⟨d15, e337, h17⟩ := Kd.at_bool (Kd.R_reads' O0.out).2.2 x1 p337 q337
        (try rw [← Q4.out] at h17)
        cases e337
        replace p337 := eq_true p337
        replace q337 := eq_true q337
        have p338 : 0 ≤ (x1 : Int) := of_decide_eq_true hA_
        have q338 : x1 < (l0.length : Int) := of_decide_eq_true hA_
        obtain ⟨d1, A338_2, c338_2, e338, h18, h19, h20, h21, hl338_2, hi338_2⟩ := at_T40 HR0.out x1 p338 q338
        cases e338
        replace h18 := cl_ HB.out h18
        replace h19 := cl_ HB.out h19
        replace h20 := cl_ HB.out h20
        replace h21 := cl_ HB.out h21
        have HR338_2 := a_ hi338_2
        have HC338_2 := a_ hl338_2
        clear hi338_2 hl338_2
        replace p338 := eq_true p338
        replace q338 := eq_true q338
        try go_wp2
        replace O0 := a_ (Kd.R_drew O0.out)
        replace O1 := a_ (Kd.R_drew O1.out)
        replace B0 := a_ (blk_drew B0.out)
        replace HB := a_ (below_drew1 HB.out)
        have p339 : 0 ≤ (x1 : Int) := of_decide_eq_true hA_
        have q339 : x1 < (l0.length : Int) := of_decide_eq_true hA_
        obtain ⟨d17, A339_2, c339_2, e339, h24, h25, h22, h26, hl339_2, hi339_2⟩ := at_T40 HR0.out x1 p339 q339
        have hw339_3 := h26
        have hw339_2 := h22
        have hw339_1 := h25
        have hw339_0 := h24
        obtain rfl : d1 = d17 := (by injection e339)
        replace h24 := cl_ HB.out h24
        replace h25 := cl_ HB.out h25
        replace h22 := cl_ HB.out h22
        replace h26 := cl_ HB.out h26
        have HR339_2 := a_ hi339_2
        have HC339_2 := a_ hl339_2
        clear hi339_2 hl339_2
        replace p339 := eq_true p339
        replace q339 := eq_true q339
        have p340 : 0 ≤ (x1 : Int) := of_decide_eq_true hA_
        have q340 : x1 < (l0.length : Int) := of_decide_eq_true hA_
        obtain ⟨d18, A340_2, c340_2, e340, h27, h28, h23, h29, hl340_2, hi340_2⟩ := at_T40 HR0.out x1 p340 q340
        have hw340_3 := h29
        have hw340_2 := h23
        have hw340_1 := h28
        have hw340_0 := h27
        obtain rfl : d1 = d18 := (by injection e340)
        replace h27 := cl_ HB.out h27
        replace h28 := cl_ HB.out h28
        replace h23 := cl_ HB.out h23
        replace h29 := cl_ HB.out h29
        have HR340_2 := a_ hi340_2
        have HC340_2 := a_ hl340_2
        clear hi340_2 hl340_2
        replace p340 := eq_true p340
        replace q340 := eq_true q340
        have ea_ := Option.some.inj (h22.symm.trans h23)
        injection ea_ with ea_ en_ ec_
        subst ea_
        subst ec_
        clear en_
        obtain ⟨a9, o15, e6⟩ := Kd.R_slice O1.out
        (first | subst e6 | (injection e6 with f1_ f2_ f3_; have f4_ := f1_.symm; have f5_ := f3_.symm; clear f1_ f2_ f3_; subst f4_; subst f5_))
        have p341 : 0 ≤ (((rd_T40 l0 x1).f1) : Int) := of_decide_eq_true hA_
        have q341 : ((rd_T40 l0 x1).f1) < (x7.length : Int) := of_decide_eq_true hA_
        obtain ⟨d19, e341, h33⟩ := Kd.at_int (Kd.R_reads' O1.out).2.2 ((rd_T40 l0 x1).f1) p341 q341
        cases e341
        replace p341 := eq_true p341
        replace q341 := eq_true q341
        have p342 : 0 ≤ (x1 : Int) := of_decide_eq_true hA_
        have q342 : x1 < (x7.length : Int) := of_decide_eq_true hA_
        obtain ⟨d20, e342, h34⟩ := Kd.at_int (Kd.R_reads' O1.out).2.2 x1 p342 q342
        obtain rfl : d19 = d20 := (by injection e342)
        replace p342 := eq_true p342
        replace q342 := eq_true q342
        have p88 : 0 ≤ (((rd_T40 l0 x1).f1) : Int) := of_decide_eq_true hA_
        have q88 : (((rd_T40 l0 x1).f1) : Int) < ((x7.length : Int) : Int) := of_decide_eq_true hA_
        obtain ⟨j7, o16, e7, g7, gl88, cl88, HG88⟩ := Kd.R_form O1.out (by omega)
        (first | cases e7 | (injection e7 with ea_ en_ ec_; (first | subst ea_ | (injection ea_ with ea_; subst ea_)); subst ec_; clear en_))
        have J6 := a_ g7
        have K3 := a_ HG88
        clear g7 gl88 HG88
        (first | simp only [add_plain] at h33 | skip)
        (first | simp only [add_plain] at h34 | skip)
        obtain ⟨h40, hf88_0⟩ := Kd.R_celln 0 O1.out (((rd_T40 l0 x1).f1) : Int) p88 q88
        replace p88 := eq_true p88
        replace q88 := eq_true q88
        have HP92 := Kd.R_putn O1.out (((rd_T40 l0 x1).f1) : Int) (wrap64 ((rd x7 ((rd_T40 l0 x1).f1)) + (rd x7 x1)))
        rw [← Y8.out] at HP92
        have HQ92 := a_ HP92
        clear HP92
        refine start_ (n := 21) (S := fun w' => w'.cell? (d1.add ((x1).toNat * 4)) = some (.int .i64 ((rd_T40 l0 x1).f0)) ∧ w'.cell? ⟨(d1.add ((x1).toNat * 4)).block, (d1.add ((x1).toNat * 4)).off + 1, none⟩ = some (.int .i64 ((rd_T40 l0 x1).f1)) ∧ w'.cell? ⟨(d1.add ((x1).toNat * 4)).block, (d1.add ((x1).toNat * 4)).off + 2, none⟩ = some (.slice A339_2 ((rd_T40 l0 x1).f2).length c339_2) ∧ w'.cell? ⟨(d1.add ((x1).toNat * 4)).block, (d1.add ((x1).toNat * 4)).off + 3, none⟩ = some (.string ((rd_T40 l0 x1).f3)) ∧ w'.cell? (d1.add ((x1).toNat * 4)) = some (.int .i64 ((rd_T40 l0 x1).f0)) ∧ w'.cell? ⟨(d1.add ((x1).toNat * 4)).block, (d1.add ((x1).toNat * 4)).off + 1, none⟩ = some (.int .i64 ((rd_T40 l0 x1).f1)) ∧ w'.cell? ⟨(d1.add ((x1).toNat * 4)).block, (d1.add ((x1).toNat * 4)).off + 2, none⟩ = some (.slice A339_2 ((rd_T40 l0 x1).f2).length c339_2) ∧ w'.cell? ⟨(d1.add ((x1).toNat * 4)).block, (d1.add ((x1).toNat * 4)).off + 3, none⟩ = some (.string ((rd_T40 l0 x1).f3)) ∧ w'.cell? ⟨j7, (((rd_T40 l0 x1).f1)).toNat, none⟩ = some (.int .i64 (rd x7 ((rd_T40 l0 x1).f1))) ∧ w'.cell? ⟨j7, (x1).toNat, none⟩ = some (.int .i64 (rd x7 x1))) (ds := [20]) #[false, false, false, false, false, false, false, false, false, false, false, false, false, false, false, false, false, false, false, false, false] (by kernel_rfl) rfl rfl ⟨(cl_ HB.out hw339_0), (cl_ HB.out hw339_1), (cl_ HB.out hw339_2), (cl_ HB.out hw339_3), (cl_ HB.out hw340_0), (cl_ HB.out hw340_1), (cl_ HB.out hw340_2), (cl_ HB.out hw340_3), h33, h34⟩ (fun hHeld => ?_); refine with_tabW sleuthref12_byHalves.tab24 sleuthref12_byHalves.bits24 (fun HT_ HW_ => ?_)
        generalize wr.drew = w90 at O0 O1 B0 HB K3 HQ92 HR339_2 HR340_2 hf88_0 h24 h25 h22 h26 h27 h28 h23 h29 h33 h34 h40 hHeld ⊢
        refine pB_ 0 112 HT_.out ?_
        refine pB_ 1 113 HT_.out ?_
        refine pB_ 2 114 HT_.out ?_
        refine pB_ 3 115 HT_.out ?_
        refine pB_ 4 116 HT_.out ?_
        refine pB_ 6 118 HT_.out ?_
        refine pB_ 7 119 HT_.out ?_
        refine pB_ 8 120 HT_.out ?_
        refine pB_ 9 121 HT_.out ?_
        refine pB_ 10 122 HT_.out ?_
        refine pB_ 14 126 HT_.out ?_
        refine pB_ 15 127 HT_.out ?_
        refine pB_ 16 128 HT_.out ?_
        refine tB_ 5 117 HT_.out HW_.out hHeld ?_
        refine tB_ 11 123 HT_.out HW_.out hHeld ?_
        refine pB_ 12 124 HT_.out ?_
        refine tB_ 13 125 HT_.out HW_.out hHeld ?_
        refine tB_ 17 129 HT_.out HW_.out hHeld ?_
        refine pB_ 18 130 HT_.out ?_
        refine pB_ 19 131 HT_.out ?_
        refine last_ (i := 20) (N := none) #[true, true, true, true, true, true, true, true, true, true, true, true, true, true, true, true, true, true, true, true, true] rfl rfl (one_of HT_.out (by kernel_rfl)) (by decide) (fun K hK => ?_)
        refine skip_ (w1 := ?_) (by rfl) rfl ?_ ?_
        rotate_left
        · go_simp
          rfl
        refine hK.out _ _ ?_
        clear hK K
        refine done_ (done_of HT_.out (by kernel_rfl)) ?_
        try go_wp2
        go_roundg k3
        case measure => have := HK1.out; have := HK2.out; have := HK3.out; omega
        case rel => exact ⟨(y8), (wrap64 (x1 - 1)), hW_, H', ⟨by have := HK1.out; have := HK2.out; have := HK3.out; omega⟩, ⟨by (with_reducible repeat (first | apply Kd.R_alloc | apply Kd.R_drewN | apply Kd.R_drew)); exact Kd.R_mono (Kd.R_far (p := ⟨j7, (((rd_T40 l0 x1).f1) : Int).toNat, none⟩) (Kd.R_types O0.out K3.out (by decide)) (fun _ hk => hk.2) (.int .i64 (wrap64 ((rd x7 ((rd_T40 l0 x1).f1)) + (rd x7 x1))))) (fun _ hk => trivial)⟩, ⟨hR_ HQ92.out⟩, ⟨by (with_reducible repeat (first | refine blk_drewN ?_ _ | refine blk_drew ?_ | refine blk_alloc ?_ _)); refine blk_far ?_ (by have h_ := Kd.R_ne O1.out B0.out (by decide); intro e_; exact h_ (by rw [e_]; rfl)) _; (with_reducible repeat (first | refine blk_drewN ?_ _ | refine blk_drew ?_ | refine blk_alloc ?_ _)); exact B0.out⟩, ⟨hC_⟩⟩
       rw [if_neg c78] at H
       have c78b0 : decide (x4 < x1) = false := decide_eq_false c78
       clear c78
       have H' := a_ H
       clear H
       go_wp2
       go_loopg [13, 14, 15] k3 (fun kq v4 v7 v8 w' => ∃ (x9 : Int) (x10 : Int) (x3 : Int), v4 = .int .i64 x9 ∧ v7 = .int .i64 x10 ∧ v8 = .int .i64 x3 ∧ Aside0 (sleuthref12_byHalves.l3 kq l0 l1 x4 x2 x7 x6 x9 x10 x3 = some (r1, r2)) ∧ Aside0 (kq ≤ k3) ∧ Aside0 (Kd.R Kd.bool 4 w' w.heap.size (fun _ => True) v0 x2) ∧ Aside0 (Kd.R (Kd.int .i64) 3 w' w.heap.size (fun _ => True) v1 x7) ∧ Aside0 (w'.heap[g0]? = some (.cells #[.int .i64 0, .int .i64 0] 27 (0, 0))) ∧ Aside0 (Below w.heap.size w w'))
       case atStart => exact ⟨((-1)), (0), (wrap64 (x4 + 1)), hW_, hW_, hW_, H', ⟨Nat.le_refl _⟩, ⟨hR_ O0.out⟩, ⟨hR_ O1.out⟩, ⟨(hK_ B0.out)⟩, ⟨hC_⟩⟩
       case round =>
        clear H'
        try clear c1
        try clear c2
        try clear p2
        try clear q2
        try clear hx2
        try clear hf2
        try clear c3
        try clear p3
        try clear q3
        try clear hx3
        try clear c4
        try clear p4
        try clear q4
        try clear hx4
        try clear hf4
        try clear c5
        try clear c6
        try clear p6
        try clear q6
        try clear hx6
        try clear hf6
        try clear c7
        try clear c8
        try clear p8
        try clear q8
        try clear hx8
        try clear hf8
        try clear c17
        try clear c17b0
        try clear c18
        try clear c18b0
        try clear c19
        try clear c19b0
        try clear c19b1
        try clear c20
        try clear c20b0
        try clear c21
        try clear c21b0
        try clear p22
        try clear q22
        try clear h42
        try clear hf22
        try clear q23
        try clear c24
        try clear c25
        try clear c25b0
        try clear c25b1
        try clear c26
        try clear c26b0
        try clear p27
        try clear q27
        try clear h43
        try clear hf27
        try clear p31
        try clear q31
        try clear h44
        try clear c32
        try clear p32
        try clear q32
        try clear h45
        try clear c33
        try clear p33
        try clear q33
        try clear h46
        try clear c34
        try clear p34
        try clear q34
        try clear h51
        try clear c36
        try clear c36b0
        try clear c37
        try clear c37b0
        try clear q38
        try clear c39
        try clear c40
        try clear c40b0
        try clear c41
        try clear c41b0
        try clear p42
        try clear q42
        try clear h47
        try clear hf42
        try clear q43
        try clear c44
        try clear c45
        try clear c45b0
        try clear c45b1
        try clear c46
        try clear c46b0
        try clear p47
        try clear q47
        try clear h48
        try clear hf47
        try clear c59
        try clear c59b0
        try clear p60
        try clear q60
        try clear h49
        try clear hf60
        try clear q61
        try clear c62
        try clear c63
        try clear c63b0
        try clear c64
        try clear c64b0
        try clear c64b1
        try clear p64
        try clear c65
        try clear c65b0
        try clear p66
        try clear q66
        try clear h50
        try clear hf66
        try clear c78
        try clear c78b0
        try clear c79
        try clear c79b0
        try clear c80
        try clear c80b0
        try clear q81
        try clear c82
        try clear c83
        try clear c83b0
        try clear c84
        try clear c84b0
        try clear c85
        try clear c85b0
        try clear c86
        try clear c86b0
        try clear c87
        try clear c87b0
        try clear p88
        try clear q88
        try clear h52
        try clear hf88
        try clear h30
        try clear h37
        try clear h8
        try clear h11
        try clear h0
        try clear h1
        try clear h2
        try clear h3
        try clear h9
        try clear h7
        try clear h12
        try clear h4
        try clear h10
        try clear h6
        try clear h14
        try clear h5
        try clear h13
        try clear h17
        try clear h18
        try clear h19
        try clear h20
        try clear h21
        try clear h24
        try clear h25
        try clear h22
        try clear h26
        try clear h27
        try clear h28
        try clear h23
        try clear h29
        try clear h33
        try clear h34
        try clear h32
        try clear h39
        try clear h31
        try clear h38
        try clear h40
        try clear p2
        try clear p22
        try clear p27
        try clear p3
        try clear p31
        try clear p310
        try clear p314
        try clear p32
        try clear p321
        try clear p322
        try clear p324
        try clear p325
        try clear p327
        try clear p328
        try clear p33
        try clear p330
        try clear p331
        try clear p334
        try clear p335
        try clear p337
        try clear p338
        try clear p339
        try clear p340
        try clear p341
        try clear p342
        try clear p4
        try clear p42
        try clear p47
        try clear p6
        try clear p60
        try clear p64
        try clear p66
        try clear p88
        try clear q2
        try clear q22
        try clear q23
        try clear q27
        try clear q3
        try clear q31
        try clear q310
        try clear q314
        try clear q32
        try clear q321
        try clear q322
        try clear q324
        try clear q325
        try clear q327
        try clear q328
        try clear q33
        try clear q330
        try clear q331
        try clear q334
        try clear q335
        try clear q337
        try clear q338
        try clear q339
        try clear q340
        try clear q341
        try clear q342
        try clear q38
        try clear q4
        try clear q42
        try clear q43
        try clear q47
        try clear q6
        try clear q60
        try clear q61
        try clear q66
        try clear q88
        obtain ⟨x9, x10, x3, rfl, rfl, rfl, HA, HK4, O0, O1, B0, HB⟩ := hrel
        cases gk with
        | zero => exact absurd HA.out (by simp [sleuthref12_byHalves.l3])
        | succ k4 =>
         have H := HA.out
         clear HA
         simp only [sleuthref12_byHalves.l3] at H
         by_cases c95 : x3 < (l0.length : Int)
         case neg =>
          rw [if_neg c95] at H
          have c95b0 : decide (x3 < (l0.length : Int)) = false := decide_eq_false c95
          clear c95
          by_cases c116 : x9 ≥ 0
          case pos =>
           rw [if_pos c116] at H
           have c116b0 : decide (0 ≤ x9) = true := decide_eq_true c116
           clear c116
           simp only [Option.some.injEq, Prod.mk.injEq] at H
           obtain ⟨rfl, rfl⟩ := H
           obtain ⟨z2, z3, f6, f7⟩ := bx2_ B0.out
           go_wp2
           refine bodyPost_ret (results_cell_row rfl _ _ g0 27 #[.int .i64 0, .int .i64 x9] (0, 0) _ rfl (bP_ (bP_ (hK_ B0.out))) Tryz.underlying27 rfl (by kernel_rfl)) rfl ?_
           exact ⟨hV_, hC_⟩
          rw [if_neg c116] at H
          have c116b0 : decide (0 ≤ x9) = false := decide_eq_false c116
          clear c116
          replace H := Option.bind_eq_some_iff.mp H
          obtain ⟨⟨t2, t3⟩, A1180, H⟩ := H
          try dsimp only at H
          have A118 := a_ A1180
          clear A1180
          simp only [Option.some.injEq, Prod.mk.injEq] at H
          obtain ⟨rfl, rfl⟩ := H
          go_wp2_with (first | ((with_reducible refine gate_callee (f := 34) rfl ?_); refine goesL_ (some 183) rfl rfl Tryz.func34 (by kernel_rfl) rfl #[.slice A0 l0.length c0, .slice (some d0) l1.length c1, .int .i64 x4] rfl hL_ ?_; (with_reducible refine (sleuthref12_verdict.calls k4 _ _ l0 _ _ l1 x4 t2 t3 _ ?s1 ?s2 ?s3 ?s4 A118.out).mono ?_); (case s1 => exact cB_ HR0.out); (case s2 => exact HC0.out); (case s3 => exact cB_ HR1.out); (case s4 => exact HC1.out); rintro e w12 ⟨rfl, hb⟩; refine ⟨_, rfl, ?_⟩; replace O0 := a_ (Kd.R_below (hR_ O0.out) hb); replace O1 := a_ (Kd.R_below (hR_ O1.out) hb); replace B0 := a_ (bB_ B0.out hb); replace HB := a_ (below_step hC_ hb); (try clear hb); (try clear hb2); (try clear hk); (try clear hi); obtain ⟨z4, z5, f8, f9⟩ := bx2_ B0.out))
          refine bodyPost_ret (results_cell_row rfl _ _ g0 27 #[.int .i64 t2, .int .i64 t3] (0, 0) _ rfl (bP_ (bP_ (hK_ B0.out))) Tryz.underlying27 rfl (by kernel_rfl)) rfl ?_
          exact ⟨hV_, hC_⟩
         rw [if_pos c95] at H
         have c95b0 : decide (x3 < (l0.length : Int)) = true := decide_eq_true c95
         clear c95
         have HC96 := a_ H
         clear H
         go_upto_region 29 with (fail)
         go_cut [151] (fun v11 wc => ∃ (kq : Nat) (x11 : Bool), v11 = .bool x11 ∧ Aside0 (sleuthref12_byHalves.j4 kq l0 l1 x4 x2 x7 x6 x9 x10 x3 x11 = some (r1, r2)) ∧ Aside0 (kq ≤ k4) ∧ Aside0 (Kd.R Kd.bool 4 wc w.heap.size (fun _ => True) v0 x2) ∧ Aside0 (Kd.R (Kd.int .i64) 3 wc w.heap.size (fun _ => True) v1 x7) ∧ Aside0 (wc.heap[g0]? = some (.cells #[.int .i64 0, .int .i64 0] 27 (0, 0))) ∧ Aside0 (Below w.heap.size w wc))
         case first =>
          have H := HC96.out
          clear HC96
          replace H := ifI_ H; obtain ⟨c97, H⟩ := H
          have c97b0 : decide (0 ≤ x3) = true := decide_eq_true c97
          clear c97
          (first | rw [c97b0] | (simp only [i64_w, i32_w]; rw [c97b0]) | skip)
          replace H := ifI_ H; obtain ⟨c98, H⟩ := H
          have c98b0 : decide (x3 < (x2.length : Int)) = true := decide_eq_true c98
          clear c98
          obtain ⟨bq99, hbq99⟩ : ∃ b_ : Bool, b_ = (rdOf false x2 x3) := ⟨_, rfl⟩
          replace H : (if bq99 = true then (if x3 < (l1.length : Int) then (sleuthref12_byHalves.j4 k4 l0 l1 x4 x2 x7 x6 x9 x10 x3 ((rd l1 x3) != 0)) else (none)) else (sleuthref12_byHalves.j4 k4 l0 l1 x4 x2 x7 x6 x9 x10 x3 true)) = some (r1, r2) := by rw [← hbq99] at H; exact H
          have Q5 := a_ hbq99
          clear hbq99
          by_cases c100 : bq99 = true
          case neg =>
           replace c100 := Bool.eq_false_iff.mpr c100
           subst c100
           rw [if_neg (show ¬ (false = true) by decide)] at H
           have H' := a_ H
           clear H
           obtain ⟨a10, o17, e20⟩ := Kd.R_slice O0.out
           subst e20
           have p346 : 0 ≤ (x3 : Int) := of_decide_eq_true hA_
           have q346 : x3 < (x2.length : Int) := of_decide_eq_true hA_
           obtain ⟨d21, e346, h36⟩ := Kd.at_bool (Kd.R_reads' O0.out).2.2 x3 p346 q346
           (try rw [← Q5.out] at h36)
           cases e346
           replace p346 := eq_true p346
           replace q346 := eq_true q346
           go_wp2
           go_meet
           case rel => exact ⟨_, (true), hW_, H', ⟨by have := HK1.out; have := HK2.out; have := HK3.out; have := HK4.out; first | omega | exact Nat.le_refl _⟩, ⟨hR_ O0.out⟩, ⟨hR_ O1.out⟩, ⟨(hK_ B0.out)⟩, ⟨hC_⟩⟩
          subst c100
          rw [if_pos rfl] at H
          replace H := ifI_ H; obtain ⟨c101, H⟩ := H
          have c101b0 : decide (x3 < (l1.length : Int)) = true := decide_eq_true c101
          clear c101
          have H' := a_ H
          clear H
          obtain ⟨a11, o18, e21⟩ := Kd.R_slice O0.out
          subst e21
          have p346 : 0 ≤ (x3 : Int) := of_decide_eq_true hA_
          have q346 : x3 < (x2.length : Int) := of_decide_eq_true hA_
          obtain ⟨d21, e346, h36⟩ := Kd.at_bool (Kd.R_reads' O0.out).2.2 x3 p346 q346
          (try rw [← Q5.out] at h36)
          cases e346
          replace p346 := eq_true p346
          replace q346 := eq_true q346
          have p347 : 0 ≤ (x3 : Int) := of_decide_eq_true hA_
          have q347 : x3 < (l1.length : Int) := of_decide_eq_true hA_
          obtain ⟨d22, e347, h41⟩ := Kd.at_int HR1.out x3 p347 q347
          obtain rfl : d0 = d22 := (by injection e347)
          replace h41 := cl_ HB.out h41
          replace p347 := eq_true p347
          replace q347 := eq_true q347
          go_wp2
          go_meet
          case rel => exact ⟨_, (((rd l1 x3) != 0)), hW_, H', ⟨by have := HK1.out; have := HK2.out; have := HK3.out; have := HK4.out; first | omega | exact Nat.le_refl _⟩, ⟨hR_ O0.out⟩, ⟨hR_ O1.out⟩, ⟨(hK_ B0.out)⟩, ⟨hC_⟩⟩
         case rest =>
          clear HC96
          try clear c1
          try clear c2
          try clear p2
          try clear q2
          try clear hx2
          try clear hf2
          try clear c3
          try clear p3
          try clear q3
          try clear hx3
          try clear c4
          try clear p4
          try clear q4
          try clear hx4
          try clear hf4
          try clear c5
          try clear c6
          try clear p6
          try clear q6
          try clear hx6
          try clear hf6
          try clear c7
          try clear c8
          try clear p8
          try clear q8
          try clear hx8
          try clear hf8
          try clear c9
          try clear q9
          try clear c10
          try clear c17
          try clear c17b0
          try clear c18
          try clear c18b0
          try clear c19
          try clear c19b0
          try clear c19b1
          try clear c20
          try clear c20b0
          try clear c21
          try clear c21b0
          try clear p22
          try clear q22
          try clear h42
          try clear hf22
          try clear q23
          try clear c24
          try clear c25
          try clear c25b0
          try clear c25b1
          try clear c26
          try clear c26b0
          try clear p27
          try clear q27
          try clear h43
          try clear hf27
          try clear p31
          try clear q31
          try clear h44
          try clear c32
          try clear p32
          try clear q32
          try clear h45
          try clear c33
          try clear p33
          try clear q33
          try clear h46
          try clear c34
          try clear p34
          try clear q34
          try clear h51
          try clear c36
          try clear c36b0
          try clear c37
          try clear c37b0
          try clear q38
          try clear c39
          try clear c40
          try clear c40b0
          try clear c41
          try clear c41b0
          try clear p42
          try clear q42
          try clear h47
          try clear hf42
          try clear q43
          try clear c44
          try clear c45
          try clear c45b0
          try clear c45b1
          try clear c46
          try clear c46b0
          try clear p47
          try clear q47
          try clear h48
          try clear hf47
          try clear c59
          try clear c59b0
          try clear p60
          try clear q60
          try clear h49
          try clear hf60
          try clear q61
          try clear c62
          try clear c63
          try clear c63b0
          try clear c64
          try clear c64b0
          try clear c64b1
          try clear p64
          try clear c65
          try clear c65b0
          try clear p66
          try clear q66
          try clear h50
          try clear hf66
          try clear c78
          try clear c78b0
          try clear c79
          try clear c79b0
          try clear c80
          try clear c80b0
          try clear q81
          try clear c82
          try clear c83
          try clear c83b0
          try clear c84
          try clear c84b0
          try clear c85
          try clear c85b0
          try clear c86
          try clear c86b0
          try clear c87
          try clear c87b0
          try clear p88
          try clear q88
          try clear h52
          try clear hf88
          try clear c95
          try clear c95b0
          try clear c97
          try clear c97b0
          try clear c98
          try clear c98b0
          try clear q99
          try clear c100
          try clear c101
          try clear c101b0
          try clear h30
          try clear h37
          try clear h8
          try clear h11
          try clear h0
          try clear h1
          try clear h2
          try clear h3
          try clear h9
          try clear h7
          try clear h12
          try clear h4
          try clear h10
          try clear h6
          try clear h14
          try clear h5
          try clear h13
          try clear h17
          try clear h18
          try clear h19
          try clear h20
          try clear h21
          try clear h24
          try clear h25
          try clear h22
          try clear h26
          try clear h27
          try clear h28
          try clear h23
          try clear h29
          try clear h33
          try clear h34
          try clear h36
          try clear h41
          try clear h32
          try clear h39
          try clear h31
          try clear h38
          try clear h40
          try clear p2
          try clear p22
          try clear p27
          try clear p3
          try clear p31
          try clear p310
          try clear p314
          try clear p32
          try clear p321
          try clear p322
          try clear p324
          try clear p325
          try clear p327
          try clear p328
          try clear p33
          try clear p330
          try clear p331
          try clear p334
          try clear p335
          try clear p337
          try clear p338
          try clear p339
          try clear p34
          try clear p340
          try clear p341
          try clear p342
          try clear p346
          try clear p347
          try clear p4
          try clear p42
          try clear p47
          try clear p6
          try clear p60
          try clear p64
          try clear p66
          try clear p8
          try clear p88
          try clear q2
          try clear q22
          try clear q23
          try clear q27
          try clear q3
          try clear q31
          try clear q310
          try clear q314
          try clear q32
          try clear q321
          try clear q322
          try clear q324
          try clear q325
          try clear q327
          try clear q328
          try clear q33
          try clear q330
          try clear q331
          try clear q334
          try clear q335
          try clear q337
          try clear q338
          try clear q339
          try clear q34
          try clear q340
          try clear q341
          try clear q342
          try clear q346
          try clear q347
          try clear q38
          try clear q4
          try clear q42
          try clear q43
          try clear q47
          try clear q6
          try clear q60
          try clear q61
          try clear q66
          try clear q8
          try clear q81
          try clear q88
          obtain ⟨kq, x11, rfl, HA, HJ95, O0, O1, B0, HB⟩ := hcut
          cases kq with
          | zero => exact absurd HA.out (by simp [sleuthref12_byHalves.j4])
          | succ kj95 =>
           have H := HA.out
           clear HA
           simp only [sleuthref12_byHalves.j4] at H
           by_cases c104 : x11 = true
           case pos =>
            subst c104
            rw [if_pos rfl] at H
            have H' := a_ H
            clear H
            go_wp2
            go_roundg kj95
            case measure => have := HK1.out; have := HK2.out; have := HK3.out; have := HK4.out; have := HJ95.out; omega
            case rel => exact ⟨(x9), (x10), (wrap64 (x3 + 1)), hW_, hW_, hW_, H', ⟨by have := HK1.out; have := HK2.out; have := HK3.out; have := HK4.out; have := HJ95.out; omega⟩, ⟨hR_ O0.out⟩, ⟨hR_ O1.out⟩, ⟨(hK_ B0.out)⟩, ⟨hC_⟩⟩
           replace c104 := Bool.eq_false_iff.mpr c104
           subst c104
           rw [if_neg (show ¬ (false = true) by decide)] at H
           replace H := ifI_ H; obtain ⟨c105, H⟩ := H
           have c105b0 : decide (0 ≤ x3) = true := decide_eq_true c105
           clear c105
           replace H := ifI_ H; obtain ⟨c106, H⟩ := H
           have c106b0 : decide (x3 < (x7.length : Int)) = true := decide_eq_true c106
           clear c106
           obtain ⟨ji107, hji107⟩ : ∃ j_ : Int, (mx (wrap64 ((wrap64 (2 * (rd x7 x3))) - x6)) (wrap64 (x6 - (wrap64 (2 * (rd x7 x3)))))) = j_ := ⟨_, rfl⟩
           replace H : (if x9 < 0 then (sleuthref12_byHalves.l3 kj95 l0 l1 x4 x2 x7 x6 x3 ji107 (wrap64 (x3 + 1))) else (if (ji107) < x10 then (sleuthref12_byHalves.l3 kj95 l0 l1 x4 x2 x7 x6 x3 ji107 (wrap64 (x3 + 1))) else (sleuthref12_byHalves.l3 kj95 l0 l1 x4 x2 x7 x6 x9 x10 (wrap64 (x3 + 1))))) = some (r1, r2) := by first | (rw [hji107] at H; exact H) | (simp only [hji107] at H ⊢; exact H)
           have hji107_ : (if (wrap64 ((wrap64 (2 * (rd x7 x3))) - x6)) < (wrap64 (x6 - (wrap64 (2 * (rd x7 x3))))) then (wrap64 (x6 - (wrap64 (2 * (rd x7 x3))))) else (wrap64 ((wrap64 (2 * (rd x7 x3))) - x6))) = ji107 := hji107
           by_cases c108 : x9 < 0
           case pos =>
            rw [if_pos c108] at H
            have c108b0 : decide (x9 < 0) = true := decide_eq_true c108
            clear c108
            have H' := a_ H
            clear H
            try go_wp2
            replace O0 := a_ (Kd.R_drew O0.out)
            replace O1 := a_ (Kd.R_drew O1.out)
            replace B0 := a_ (blk_drew B0.out)
            replace HB := a_ (below_drew1 HB.out)
            obtain ⟨a12, o19, e8⟩ := Kd.R_slice O1.out
            (first | subst e8 | (injection e8 with f1_ f2_ f3_; have f4_ := f1_.symm; have f5_ := f3_.symm; clear f1_ f2_ f3_; subst f4_; subst f5_))
            have p348 : 0 ≤ (x3 : Int) := of_decide_eq_true hA_
            have q348 : x3 < (x7.length : Int) := of_decide_eq_true hA_
            obtain ⟨d2, e348, h15⟩ := Kd.at_int (Kd.R_reads' O1.out).2.2 x3 p348 q348
            cases e348
            replace p348 := eq_true p348
            replace q348 := eq_true q348
            have p349 : 0 ≤ (x3 : Int) := of_decide_eq_true hA_
            have q349 : x3 < (x7.length : Int) := of_decide_eq_true hA_
            obtain ⟨d10, e349, h16⟩ := Kd.at_int (Kd.R_reads' O1.out).2.2 x3 p349 q349
            obtain rfl : d2 = d10 := (by injection e349)
            replace p349 := eq_true p349
            replace q349 := eq_true q349
            refine start_ (n := 16) (S := fun w' => w'.cell? (d2.add (x3).toNat) = some (.int .i64 (rd x7 x3)) ∧ w'.cell? (d2.add (x3).toNat) = some (.int .i64 (rd x7 x3))) (ds := []) #[false, false, false, false, false, false, false, false, false, false, false, false, false, false, false, false] (by kernel_rfl) rfl rfl ⟨h15, h16⟩ (fun hHeld => ?_); refine with_tabW sleuthref12_byHalves.tab30 sleuthref12_byHalves.bits30 (fun HT_ HW_ => ?_)
            generalize wc.drew = w14 at O0 O1 B0 HB h15 h16 hHeld ⊢
            refine pB_ 0 152 HT_.out ?_
            refine pB_ 1 153 HT_.out ?_
            refine pB_ 2 154 HT_.out ?_
            refine pB_ 5 157 HT_.out ?_
            refine pB_ 7 159 HT_.out ?_
            refine pB_ 8 160 HT_.out ?_
            refine pB_ 9 161 HT_.out ?_
            refine pB_ 10 162 HT_.out ?_
            refine tB_ 3 155 HT_.out HW_.out hHeld ?_
            refine pB_ 4 156 HT_.out ?_
            refine pB_ 6 158 HT_.out ?_
            refine tB_ 11 163 HT_.out HW_.out hHeld ?_
            refine pB_ 12 164 HT_.out ?_
            refine pB_ 13 165 HT_.out ?_
            refine pB_ 14 166 HT_.out ?_
            refine pB_ 15 16 HT_.out ?_
            refine done_ (done_of HT_.out (by kernel_rfl)) ?_
            try go_wp2
            go_roundg kj95
            case measure => have := HK1.out; have := HK2.out; have := HK3.out; have := HK4.out; have := HJ95.out; omega
            case rel => exact ⟨(x3), (ji107), (wrap64 (x3 + 1)), hW_, (by first | rfl | (simp; done) | (simp only [← hji107] <;> (first | rfl | simp)) | (simp [*]; done)), hW_, H', ⟨by have := HK1.out; have := HK2.out; have := HK3.out; have := HK4.out; have := HJ95.out; omega⟩, ⟨hR_ O0.out⟩, ⟨hR_ O1.out⟩, ⟨(hK_ B0.out)⟩, ⟨hC_⟩⟩
           rw [if_neg c108] at H
           have c108b0 : decide (x9 < 0) = false := decide_eq_false c108
           clear c108
           by_cases c111 : (ji107) < x10
           case neg =>
            rw [if_neg c111] at H
            have c111b0 : decide ((ji107) < x10) = false := decide_eq_false c111
            clear c111
            have H' := a_ H
            clear H
            try go_wp2
            replace O0 := a_ (Kd.R_drew O0.out)
            replace O1 := a_ (Kd.R_drew O1.out)
            replace B0 := a_ (blk_drew B0.out)
            replace HB := a_ (below_drew1 HB.out)
            obtain ⟨a13, o20, e9⟩ := Kd.R_slice O1.out
            (first | subst e9 | (injection e9 with f1_ f2_ f3_; have f4_ := f1_.symm; have f5_ := f3_.symm; clear f1_ f2_ f3_; subst f4_; subst f5_))
            have p348 : 0 ≤ (x3 : Int) := of_decide_eq_true hA_
            have q348 : x3 < (x7.length : Int) := of_decide_eq_true hA_
            obtain ⟨d2, e348, h15⟩ := Kd.at_int (Kd.R_reads' O1.out).2.2 x3 p348 q348
            cases e348
            replace p348 := eq_true p348
            replace q348 := eq_true q348
            have p349 : 0 ≤ (x3 : Int) := of_decide_eq_true hA_
            have q349 : x3 < (x7.length : Int) := of_decide_eq_true hA_
            obtain ⟨d10, e349, h16⟩ := Kd.at_int (Kd.R_reads' O1.out).2.2 x3 p349 q349
            obtain rfl : d2 = d10 := (by injection e349)
            replace p349 := eq_true p349
            replace q349 := eq_true q349
            refine start_ (n := 16) (S := fun w' => w'.cell? (d2.add (x3).toNat) = some (.int .i64 (rd x7 x3)) ∧ w'.cell? (d2.add (x3).toNat) = some (.int .i64 (rd x7 x3))) (ds := []) #[false, false, false, false, false, false, false, false, false, false, false, false, false, false, false, false] (by kernel_rfl) rfl rfl ⟨h15, h16⟩ (fun hHeld => ?_); refine with_tabW sleuthref12_byHalves.tab30 sleuthref12_byHalves.bits30 (fun HT_ HW_ => ?_)
            generalize wc.drew = w16 at O0 O1 B0 HB h15 h16 hHeld ⊢
            refine pB_ 0 152 HT_.out ?_
            refine pB_ 1 153 HT_.out ?_
            refine pB_ 2 154 HT_.out ?_
            refine pB_ 5 157 HT_.out ?_
            refine pB_ 7 159 HT_.out ?_
            refine pB_ 8 160 HT_.out ?_
            refine pB_ 9 161 HT_.out ?_
            refine pB_ 10 162 HT_.out ?_
            refine tB_ 3 155 HT_.out HW_.out hHeld ?_
            refine pB_ 4 156 HT_.out ?_
            refine pB_ 6 158 HT_.out ?_
            refine tB_ 11 163 HT_.out HW_.out hHeld ?_
            refine pB_ 12 164 HT_.out ?_
            refine pB_ 13 165 HT_.out ?_
            refine pB_ 14 166 HT_.out ?_
            refine pB_ 15 16 HT_.out ?_
            refine done_ (done_of HT_.out (by kernel_rfl)) ?_
            try go_wp2
            go_roundg kj95
            case measure => have := HK1.out; have := HK2.out; have := HK3.out; have := HK4.out; have := HJ95.out; omega
            case rel => exact ⟨(x9), (x10), (wrap64 (x3 + 1)), hW_, hW_, hW_, H', ⟨by have := HK1.out; have := HK2.out; have := HK3.out; have := HK4.out; have := HJ95.out; omega⟩, ⟨hR_ O0.out⟩, ⟨hR_ O1.out⟩, ⟨(hK_ B0.out)⟩, ⟨hC_⟩⟩
           rw [if_pos c111] at H
           have c111b0 : decide ((ji107) < x10) = true := decide_eq_true c111
           clear c111
           have H' := a_ H
           clear H
           try go_wp2
           replace O0 := a_ (Kd.R_drew O0.out)
           replace O1 := a_ (Kd.R_drew O1.out)
           replace B0 := a_ (blk_drew B0.out)
           replace HB := a_ (below_drew1 HB.out)
           obtain ⟨a14, o21, e10⟩ := Kd.R_slice O1.out
           (first | subst e10 | (injection e10 with f1_ f2_ f3_; have f4_ := f1_.symm; have f5_ := f3_.symm; clear f1_ f2_ f3_; subst f4_; subst f5_))
           have p348 : 0 ≤ (x3 : Int) := of_decide_eq_true hA_
           have q348 : x3 < (x7.length : Int) := of_decide_eq_true hA_
           obtain ⟨d2, e348, h15⟩ := Kd.at_int (Kd.R_reads' O1.out).2.2 x3 p348 q348
           cases e348
           replace p348 := eq_true p348
           replace q348 := eq_true q348
           have p349 : 0 ≤ (x3 : Int) := of_decide_eq_true hA_
           have q349 : x3 < (x7.length : Int) := of_decide_eq_true hA_
           obtain ⟨d10, e349, h16⟩ := Kd.at_int (Kd.R_reads' O1.out).2.2 x3 p349 q349
           obtain rfl : d2 = d10 := (by injection e349)
           replace p349 := eq_true p349
           replace q349 := eq_true q349
           refine start_ (n := 16) (S := fun w' => w'.cell? (d2.add (x3).toNat) = some (.int .i64 (rd x7 x3)) ∧ w'.cell? (d2.add (x3).toNat) = some (.int .i64 (rd x7 x3))) (ds := []) #[false, false, false, false, false, false, false, false, false, false, false, false, false, false, false, false] (by kernel_rfl) rfl rfl ⟨h15, h16⟩ (fun hHeld => ?_); refine with_tabW sleuthref12_byHalves.tab30 sleuthref12_byHalves.bits30 (fun HT_ HW_ => ?_)
           generalize wc.drew = w17 at O0 O1 B0 HB h15 h16 hHeld ⊢
           refine pB_ 0 152 HT_.out ?_
           refine pB_ 1 153 HT_.out ?_
           refine pB_ 2 154 HT_.out ?_
           refine pB_ 5 157 HT_.out ?_
           refine pB_ 7 159 HT_.out ?_
           refine pB_ 8 160 HT_.out ?_
           refine pB_ 9 161 HT_.out ?_
           refine pB_ 10 162 HT_.out ?_
           refine tB_ 3 155 HT_.out HW_.out hHeld ?_
           refine pB_ 4 156 HT_.out ?_
           refine pB_ 6 158 HT_.out ?_
           refine tB_ 11 163 HT_.out HW_.out hHeld ?_
           refine pB_ 12 164 HT_.out ?_
           refine pB_ 13 165 HT_.out ?_
           refine pB_ 14 166 HT_.out ?_
           refine pB_ 15 16 HT_.out ?_
           refine done_ (done_of HT_.out (by kernel_rfl)) ?_
           try go_wp2
           go_roundg kj95
           case measure => have := HK1.out; have := HK2.out; have := HK3.out; have := HK4.out; have := HJ95.out; omega
           case rel => exact ⟨(x3), (ji107), (wrap64 (x3 + 1)), hW_, (by first | rfl | (simp; done) | (simp only [← hji107] <;> (first | rfl | simp)) | (simp [*]; done)), hW_, H', ⟨by have := HK1.out; have := HK2.out; have := HK3.out; have := HK4.out; have := HJ95.out; omega⟩, ⟨hR_ O0.out⟩, ⟨hR_ O1.out⟩, ⟨(hK_ B0.out)⟩, ⟨hC_⟩⟩
set_option maxHeartbeats 8000000
set_option maxRecDepth 100000
attribute [local go_sem] max2_int min2_int max_two min_two max_three min_three max_four min_four   -- for this text's walks alone
set_option linter.unusedVariables false
set_option linter.unusedSimpArgs false

def sleuthref12_Half.f (k : Nat) (l0 : List (S40)) (l1 : List Int) : Option (Int × Int × Int) := (sleuthref12_MarksMay.f k l0 l1).bind fun t351 => (if t351 = true then ((sleuthref12_byHalves.f k l0 l1).bind fun bt352 => (some (bt352.1, bt352.2, 0))) else (some (0, 0, 1900)))
theorem sleuthref12_Half.calls (k : Nat) (A0 : Option Addr) (c0 : Nat) (l0 : List (S40)) (A1 : Option Addr) (c1 : Nat) (l1 : List Int) (r1 : Int) (r2 : Int) (r3 : Int) (w : World) (hr0 : Kd.C k40 w A0 l0.length l0) (hc0 : l0.length ≤ c0) (hr1 : Kd.C (Kd.int .i64) w A1 l1.length l1) (hc1 : l1.length ≤ c1) (h : sleuthref12_Half.f k l0 l1 = some (r1, r2, r3)) :
 Calls Tryz.prog 7 #[.slice A0 l0.length c0, .slice A1 l1.length c1] w fun e w' => e = .returned (.tuple #[.agg #[.int .i64 r1, .int .i64 r2], .int .i64 r3]) ∧ Below w.heap.size w w' := by
 have hu27 := Tryz.underlying27
 have HR0 := a_ hr0
 have HC0 := a_ hc0
 clear hr0 hc0
 have HR1 := a_ hr1
 have HC1 := a_ hc1
 clear hr1 hc1
 have HB := a_ (Below.refl w.heap.size w)
 have H := h; unfold sleuthref12_Half.f at H
 clear h
 replace H := Option.bind_eq_some_iff.mp H
 obtain ⟨t2, A30, H⟩ := H
 try dsimp only at H
 have A3 := a_ A30
 clear A30
 by_cases c4 : t2 = true
 case neg =>
  replace c4 := Bool.eq_false_iff.mpr c4
  subst c4
  rw [if_neg (show ¬ (false = true) by decide)] at H
  simp only [Option.some.injEq, Prod.mk.injEq] at H
  obtain ⟨rfl, rfl, rfl⟩ := H
  go_enter Tryz.func7, Tryz.ntmps7
  go_wp2_with (first | ((with_reducible refine gate_dst (N := 4) rfl ?_); refine boxE_ 4 #[.int .i64 0, .int .i64 0] 27 ?_; intro g0 hg w0 hbox hb; have B0 := a_ (hbox); have E0 := a_ ((gE_ hg : w.heap.size ≤ g0)); replace HB := a_ (below_step hB_ hb); clear hb hbox hg) | ((with_reducible refine gate_callee (f := 15) rfl ?_); refine goesL_ (some 8) rfl rfl Tryz.func15 (by kernel_rfl) rfl #[.slice A0 l0.length c0, .slice A1 l1.length c1] rfl hL_ ?_; (with_reducible refine (sleuthref12_MarksMay.calls k _ _ l0 _ _ l1 false _ ?s1 ?s2 ?s3 ?s4 A3.out).mono ?_); (case s1 => exact cB_ HR0.out); (case s2 => exact HC0.out); (case s3 => exact cB_ HR1.out); (case s4 => exact HC1.out); rintro e w1 ⟨rfl, hb⟩; refine ⟨_, rfl, ?_⟩; replace B0 := a_ (bB_ B0.out hb); replace HB := a_ (below_step hC_ hb); (try clear hb); (try clear hb2); (try clear hk); (try clear hi); obtain ⟨z0, z1, f0, f1⟩ := bx2_ B0.out))
  refine bodyPost_ret (results_ct rfl _ _ g0 27 #[.int .i64 0, .int .i64 0] (0, 0) _ rfl (bP_ (bP_ (hK_ B0.out))) Tryz.underlying27 rfl (by kernel_rfl)) rfl ?_
  exact ⟨hV_, hC_⟩

 subst c4
 rw [if_pos rfl] at H
 replace H := Option.bind_eq_some_iff.mp H
 obtain ⟨⟨t0, t1⟩, A50, H⟩ := H
 try dsimp only at H
 have A5 := a_ A50
 clear A50
 simp only [Option.some.injEq, Prod.mk.injEq] at H
 obtain ⟨rfl, rfl, rfl⟩ := H
 go_enter Tryz.func7, Tryz.ntmps7
 go_wp2_with (first | ((with_reducible refine gate_dst (N := 4) rfl ?_); refine boxE_ 4 #[.int .i64 0, .int .i64 0] 27 ?_; intro g0 hg w6 hbox hb; have B0 := a_ (hbox); have E0 := a_ ((gE_ hg : w.heap.size ≤ g0)); replace HB := a_ (below_step hB_ hb); clear hb hbox hg) | ((with_reducible refine gate_callee (f := 15) rfl ?_); refine goesL_ (some 8) rfl rfl Tryz.func15 (by kernel_rfl) rfl #[.slice A0 l0.length c0, .slice A1 l1.length c1] rfl hL_ ?_; (with_reducible refine (sleuthref12_MarksMay.calls k _ _ l0 _ _ l1 true _ ?s1 ?s2 ?s3 ?s4 A3.out).mono ?_); (case s1 => exact cB_ HR0.out); (case s2 => exact HC0.out); (case s3 => exact cB_ HR1.out); (case s4 => exact HC1.out); rintro e w7 ⟨rfl, hb⟩; refine ⟨_, rfl, ?_⟩; replace B0 := a_ (bB_ B0.out hb); replace HB := a_ (below_step hC_ hb); (try clear hb); (try clear hb2); (try clear hk); (try clear hi)) | ((with_reducible refine gate_callee (f := 16) rfl ?_); refine goesL_ (some 13) rfl rfl Tryz.func16 (by kernel_rfl) rfl #[.slice A0 l0.length c0, .slice A1 l1.length c1] rfl hL_ ?_; (with_reducible refine (sleuthref12_byHalves.calls k _ _ l0 _ _ l1 t0 t1 _ ?s1 ?s2 ?s3 ?s4 A5.out).mono ?_); (case s1 => exact cB_ HR0.out); (case s2 => exact HC0.out); (case s3 => exact cB_ HR1.out); (case s4 => exact HC1.out); rintro e w8 ⟨rfl, hb⟩; refine ⟨_, rfl, ?_⟩; replace B0 := a_ (bB_ B0.out hb); replace HB := a_ (below_step hC_ hb); (try clear hb); (try clear hb2); (try clear hk); (try clear hi); obtain ⟨z2, z3, f2, f3⟩ := bx2_ B0.out))
 refine bodyPost_ret (results_ct rfl _ _ g0 27 #[.int .i64 t0, .int .i64 t1] (0, 0) _ rfl (bP_ (bP_ (hK_ B0.out))) Tryz.underlying27 rfl (by kernel_rfl)) rfl ?_
 exact ⟨hV_, hC_⟩
def sleuthlaw0_Num.f (a0 : Int) : Option (Int) := some a0
theorem sleuthlaw0_Num.calls (a0 : Int) (r : Int) (w : World) (h : sleuthlaw0_Num.f a0 = some r) :
 Calls Tryz.prog 8 #[.int .i64 a0] w fun e w' => e = .returned (.int .i64 r) ∧ Drawn0 w w' := by
 have H : (some a0) = some r := h
 clear h
 obtain rfl := Option.some.inj H
 go_enter Tryz.func8, Tryz.ntmps8
 go_wp2
 go_ret
 exact ⟨by first | rfl | (simp; done) | (simp [*]; done), by repeat (first | exact Drawn0.refl _ | apply Drawn0.step)⟩

def sleuthlaw0_SameTexts.l0 : Nat → List ByteArray → List ByteArray → Int → Option (Bool)
 | 0, _, _, _ => none
 | k + 1, x0, x1, x5 => if x5 < (x0.length : Int) then (if 0 ≤ x5 then (if x5 < (x1.length : Int) then (if (rdOf ByteArray.empty x0 x5).toList = (rdOf ByteArray.empty x1 x5).toList then (sleuthlaw0_SameTexts.l0 k x0 x1 (wrap64 (x5 + 1))) else (some false)) else (none)) else (none)) else (some true)
def sleuthlaw0_SameTexts.f (k : Nat) (l0 : List ByteArray) (l1 : List ByteArray) : Option (Bool) := if (l0.length : Int) = (l1.length : Int) then (sleuthlaw0_SameTexts.l0 k l0 l1 0) else (some false)
theorem sleuthlaw0_SameTexts.calls (k : Nat) (A0 : Option Addr) (c0 : Nat) (l0 : List ByteArray) (A1 : Option Addr) (c1 : Nat) (l1 : List ByteArray) (r : Bool) (w : World) (hr0 : Kd.C Kd.string w A0 l0.length l0) (hc0 : l0.length ≤ c0) (hr1 : Kd.C Kd.string w A1 l1.length l1) (hc1 : l1.length ≤ c1) (h : sleuthlaw0_SameTexts.f k l0 l1 = some r) :
 Calls Tryz.prog 35 #[.slice A0 l0.length c0, .slice A1 l1.length c1] w fun e w' => e = .returned (.bool r) ∧ Drawn0 w w' := by
 have HR0 := a_ hr0
 have HC0 := a_ hc0
 clear hr0 hc0
 have HR1 := a_ hr1
 have HC1 := a_ hc1
 clear hr1 hc1
 have H := h; unfold sleuthlaw0_SameTexts.f at H
 clear h
 by_cases c3 : (l0.length : Int) = (l1.length : Int)
 case neg =>
  rw [if_neg c3] at H
  have c3b0 : ((l0.length : Int) == (l1.length : Int)) = false := beq_eq_false_iff_ne.mpr c3
  have c3b1 : ((l0.length : Int) != (l1.length : Int)) = true := bne_iff_ne.mpr c3
  have c3b2 : (l0.length == l1.length) = false := by first | simpa using c3 | (simp at c3 ⊢; omega)
  obtain rfl := Option.some.inj H
  go_enter Tryz.func35, Tryz.ntmps35
  go_wp2
  repeat (go_quiet (fail); try go_wp2)
  go_ret
  exact ⟨by first | rfl | (simp; done) | (simp [*]; done), by repeat (first | exact Drawn0.refl _ | apply Drawn0.step)⟩

 rw [if_pos c3] at H
 have c3b0 : ((l0.length : Int) == (l1.length : Int)) = true := beq_iff_eq.mpr c3
 have c3b1 : ((l0.length : Int) != (l1.length : Int)) = false := bne_eq_false_iff_eq.mpr c3
 have c3b2 : (l0.length == l1.length) = true := by first | simpa using c3 | (simp at c3 ⊢; omega)
 clear c3
 have H' := a_ H
 clear H
 go_enter Tryz.func35, Tryz.ntmps35
 go_wp2
 repeat (go_quiet (fail); try go_wp2)
 go_loopg [5] k (fun kq v5 w' => ∃ (x0 : Int), v5 = .int .i64 x0 ∧ Aside0 (sleuthlaw0_SameTexts.l0 kq l0 l1 x0 = some r) ∧ Aside0 (kq ≤ k) ∧ Drawn0 w w')
 case atStart => exact ⟨(0), hW_, H', ⟨Nat.le_refl _⟩, by repeat (first | exact Drawn0.refl _ | apply Drawn0.step)⟩
 case round =>
  clear H'
  try clear c1
  try clear p2
  try clear c3
  try clear c3b0
  try clear c3b1
  try clear c3b2
  obtain ⟨x0, rfl, HA, HK1, ⟨m1, rfl⟩⟩ := hrel
  cases gk with
  | zero => exact absurd HA.out (by simp [sleuthlaw0_SameTexts.l0])
  | succ k1 =>
   have H := HA.out
   clear HA
   simp only [sleuthlaw0_SameTexts.l0] at H
   by_cases c4 : x0 < (l0.length : Int)
   case neg =>
    rw [if_neg c4] at H
    have c4b0 : decide (x0 < (l0.length : Int)) = false := decide_eq_false c4
    clear c4
    obtain rfl := Option.some.inj H
    go_wp2
    repeat (go_quiet (fail); try go_wp2)
    go_ret
    exact ⟨by first | rfl | (simp; done) | (simp [*]; done), by repeat (first | exact Drawn0.refl _ | apply Drawn0.step)⟩
   rw [if_pos c4] at H
   have c4b0 : decide (x0 < (l0.length : Int)) = true := decide_eq_true c4
   clear c4
   replace H := ifI_ H; obtain ⟨c5, H⟩ := H
   have c5b0 : decide (0 ≤ x0) = true := decide_eq_true c5
   clear c5
   replace H := ifI_ H; obtain ⟨c6, H⟩ := H
   have c6b0 : decide (x0 < (l1.length : Int)) = true := decide_eq_true c6
   clear c6
   by_cases c7 : (rdOf ByteArray.empty l0 x0).toList = (rdOf ByteArray.empty l1 x0).toList
   case neg =>
    rw [if_neg c7] at H
    have c7b0 : ((rdOf ByteArray.empty l0 x0).toList == (rdOf ByteArray.empty l1 x0).toList) = false := beq_eq_false_iff_ne.mpr c7
    have c7b1 : ((rdOf ByteArray.empty l0 x0).toList != (rdOf ByteArray.empty l1 x0).toList) = true := bne_iff_ne.mpr c7
    obtain rfl := Option.some.inj H
    have p354 : 0 ≤ (x0 : Int) := of_decide_eq_true hA_
    have q354 : x0 < (l0.length : Int) := of_decide_eq_true hA_
    obtain ⟨d0, e354, h0⟩ := Kd.at_string HR0.out x0 p354 q354
    cases e354
    replace p354 := eq_true p354
    replace q354 := eq_true q354
    have p355 : 0 ≤ (x0 : Int) := of_decide_eq_true hA_
    have q355 : x0 < (l1.length : Int) := of_decide_eq_true hA_
    obtain ⟨d1, e355, h1⟩ := Kd.at_string HR1.out x0 p355 q355
    cases e355
    replace p355 := eq_true p355
    replace q355 := eq_true q355
    go_wp2
    repeat (go_quiet (fail); try go_wp2)
    go_ret
    exact ⟨by first | rfl | (simp; done) | (simp [*]; done), by repeat (first | exact Drawn0.refl _ | apply Drawn0.step)⟩
   rw [if_pos c7] at H
   have c7b0 : ((rdOf ByteArray.empty l0 x0).toList == (rdOf ByteArray.empty l1 x0).toList) = true := beq_iff_eq.mpr c7
   have c7b1 : ((rdOf ByteArray.empty l0 x0).toList != (rdOf ByteArray.empty l1 x0).toList) = false := bne_eq_false_iff_eq.mpr c7
   clear c7
   have H' := a_ H
   clear H
   have p354 : 0 ≤ (x0 : Int) := of_decide_eq_true hA_
   have q354 : x0 < (l0.length : Int) := of_decide_eq_true hA_
   obtain ⟨d0, e354, h0⟩ := Kd.at_string HR0.out x0 p354 q354
   cases e354
   replace p354 := eq_true p354
   replace q354 := eq_true q354
   have p355 : 0 ≤ (x0 : Int) := of_decide_eq_true hA_
   have q355 : x0 < (l1.length : Int) := of_decide_eq_true hA_
   obtain ⟨d1, e355, h1⟩ := Kd.at_string HR1.out x0 p355 q355
   cases e355
   replace p355 := eq_true p355
   replace q355 := eq_true q355
   go_wp2
   repeat (go_quiet (fail); try go_wp2)
   go_roundg k1
   case measure => have := HK1.out; omega
   case rel => exact ⟨(wrap64 (x0 + 1)), hW_, H', ⟨by have := HK1.out; omega⟩, by repeat (first | exact Drawn0.refl _ | apply Drawn0.step)⟩
end Go.Proofs.YtifhpkakdlfgnaaGreatDoor.G
end
