-- Laid by the session's own driver gp.py over the kit's printer. Not trusted: Lean checks it.
import Derived.Test.YthoegphcmkejoaaDoorU2
import Derived.Test.YthoegphcmkejoaaDoorG0
import Derived.Test.YthoegphcmkejoaaDoorU6
namespace Go.Proofs.YthoegphcmkejoaaDoor.G
open Go.RowKit Go.Proofs.YthoegphcmkejoaaDoorW.PrintWords Go.Proofs.YthoegphcmkejoaaDoorW.PrintLast Go.Proofs.YthoegphcmkejoaaDoorW.PrintMore
set_option maxHeartbeats 8000000
set_option maxRecDepth 100000
attribute [local go_sem] max2_int min2_int max_two min_two max_three min_three max_four min_four   -- for this text's walks alone
set_option linter.unusedVariables false
set_option linter.unusedSimpArgs false

def sleuthlaw15_RecordUnlike.j0 : Nat → ByteArray → Int → ByteArray → Int → Bool → Int → Int → List ByteArray → ByteArray → Int → Int → List ByteArray → ByteArray → Option (Bool)
 | 0, _, _, _, _, _, _, _, _, _, _, _, _, _ => none
 | k + 1, x5, x6, x7, x8, x29, x164000, x164001, x164002, x164003, x165000, x165001, x165002, x165003 => if x29 = true then ((sleuthlaw0_Num.f x6).bind fun t172 => (if t172 = 0 then ((sleuthlaw0_Num.f x8).bind fun t173 => (if t173 = 0 then (some true) else (some (x7.toList == ([] : List UInt8))))) else (if x5.toList = ([] : List UInt8) then ((sleuthlaw0_Num.f x8).bind fun t174 => (if t174 = 0 then (some true) else (some (x7.toList == ([] : List UInt8))))) else (none)))) else (if 0 ≤ (mn (x5.size : Int) (x7.size : Int)) then (if (mn (x5.size : Int) (x7.size : Int)) ≤ (x5.size : Int) then (if (mn (x5.size : Int) (x7.size : Int)) ≤ (x7.size : Int) then ((sleuthlaw0_SameNode.f k x164000 x164001 x164002 x164003 x165000 x165001 x165002 x165003).bind fun t175 => (some (((x5.extract 0 ((mn (x5.size : Int) (x7.size : Int)) : Int).toNat).toList == (x7.extract 0 ((mn (x5.size : Int) (x7.size : Int)) : Int).toNat).toList) == t175))) else (none)) else (none)) else (none))
def sleuthlaw15_RecordUnlike.f (k : Nat) (a0_0 : Int) (a0_1 : Int) (l0_2 : List ByteArray) (a0_3 : ByteArray) (a1_0 : Int) (a1_1 : Int) (l1_2 : List ByteArray) (a1_3 : ByteArray) : Option (Bool) := (sleuthlaw15_awake.f k).bind fun t165 => (if t165 = true then ((record_Put.f k a0_0 a0_1 l0_2 a0_3).bind fun bt166 => ((record_Put.f k a1_0 a1_1 l1_2 a1_3).bind fun bt168 => ((sleuthlaw0_Num.f bt166.2).bind fun t170 => (if t170 = 0 then ((sleuthlaw0_Num.f bt168.2).bind fun t171 => (sleuthlaw15_RecordUnlike.j0 k bt166.1 bt166.2 bt168.1 bt168.2 (t171 != 0) a0_0 a0_1 l0_2 a0_3 a1_0 a1_1 l1_2 a1_3)) else (sleuthlaw15_RecordUnlike.j0 k bt166.1 bt166.2 bt168.1 bt168.2 true a0_0 a0_1 l0_2 a0_3 a1_0 a1_1 l1_2 a1_3))))) else (none))
def sleuthlaw15_RecordUnlike.T8 : Bool × List (List Nat × List Nat) := (true, [([], []), ([], []), ([0, 1], [0, 1]), ([], []), ([], []), ([3, 4], [3, 4]), ([2, 5], [2, 5]), ([], []), ([], []), ([7, 8], [7, 8]), ([6, 9], [6, 9]), ([10, 9, 0, 1, 2, 3, 4, 5, 6, 7, 8, 9, 10], [10])])
def sleuthlaw15_RecordUnlike.B8 : List Nat := [0, 0, 3, 0, 0, 24, 63, 0, 0, 384, 1023, 2047]
theorem sleuthlaw15_RecordUnlike.tab8 : rtab .any (opsOf Tryd.f5 8) = sleuthlaw15_RecordUnlike.T8 := by kernel_rfl
theorem sleuthlaw15_RecordUnlike.bits8 : waitsOk sleuthlaw15_RecordUnlike.T8.2 sleuthlaw15_RecordUnlike.B8 = true := by kernel_rfl
theorem sleuthlaw15_RecordUnlike.calls (k : Nat) (a0_0 : Int) (a0_1 : Int) (A0_2 : Option Addr) (c0_2 : Nat) (l0_2 : List ByteArray) (a0_3 : ByteArray) (a1_0 : Int) (a1_1 : Int) (A1_2 : Option Addr) (c1_2 : Nat) (l1_2 : List ByteArray) (a1_3 : ByteArray) (r : Bool) (w : World) (hr0_2 : Kd.C Kd.string w A0_2 l0_2.length l0_2) (hc0_2 : l0_2.length ≤ c0_2) (hr1_2 : Kd.C Kd.string w A1_2 l1_2.length l1_2) (hc1_2 : l1_2.length ≤ c1_2) (h : sleuthlaw15_RecordUnlike.f k a0_0 a0_1 l0_2 a0_3 a1_0 a1_1 l1_2 a1_3 = some r) (hG : GOK w) :
 Calls Tryd.prog 5 #[.agg #[.int .i64 a0_0, .int .i64 a0_1, .slice A0_2 l0_2.length c0_2, .string a0_3], .agg #[.int .i64 a1_0, .int .i64 a1_1, .slice A1_2 l1_2.length c1_2, .string a1_3]] w fun e w' => e = .returned (.bool r) ∧ Below w.heap.size w w' := by
 have hu24 := Tryd.underlying24
 have HR0_2 := a_ hr0_2
 have HC0_2 := a_ hc0_2
 clear hr0_2 hc0_2
 have HR1_2 := a_ hr1_2
 have HC1_2 := a_ hc1_2
 clear hr1_2 hc1_2
 have HB := a_ (Below.refl w.heap.size w)
 have H := h; unfold sleuthlaw15_RecordUnlike.f at H
 clear h
 replace H := Option.bind_eq_some_iff.mp H
 obtain ⟨t10, A30, H⟩ := H
 try dsimp only at H
 have A3 := a_ A30
 clear A30
 by_cases c4 : t10 = true
 case neg =>
  replace c4 := Bool.eq_false_iff.mpr c4
  subst c4
  rw [if_neg (show ¬ (false = true) by decide)] at H
  cases H
 subst c4
 rw [if_pos rfl] at H
 replace H := Option.bind_eq_some_iff.mp H
 obtain ⟨⟨t0, t1⟩, A50, H⟩ := H
 try dsimp only at H
 have A5 := a_ A50
 clear A50
 replace H := Option.bind_eq_some_iff.mp H
 obtain ⟨⟨t2, t4⟩, A60, H⟩ := H
 try dsimp only at H
 have A6 := a_ A60
 clear A60
 have HC7 := a_ H
 clear H
 go_enter Tryd.func5, Tryd.ntmps5
 go_upto_region 5 with (first | ((with_reducible refine gate_dst (N := 2) rfl ?_); refine boxE_ 2 #[.int .i64 a0_0, .int .i64 a0_1, .slice A0_2 l0_2.length c0_2, .string a0_3] 24 ?_; intro g0 hg w8 hbox hb; have B0 := a_ (hbox); have E0 := a_ ((gE_ hg : w.heap.size ≤ g0)); replace HB := a_ (below_step hB_ hb); clear hb hbox hg) | ((with_reducible refine gate_dst (N := 3) rfl ?_); refine boxE_ 3 #[.int .i64 a1_0, .int .i64 a1_1, .slice A1_2 l1_2.length c1_2, .string a1_3] 24 ?_; intro g1 hg w9 hbox hb; have B1 := a_ (hbox); have E1 := a_ ((gE_ hg : w.heap.size ≤ g1)); replace HB := a_ (below_step hC_ hb); have N0 := a_ ((bL_ B0.out hg : g0 ≠ g1)); have N1 := a_ ((bG_ B0.out hg : g1 ≠ g0)); replace B0 := a_ (bB_ B0.out hb); clear hb hbox hg) | ((with_reducible refine gate_callee (f := 15) rfl ?_); refine goesL_ (some 10) rfl rfl Tryd.func15 (by kernel_rfl) rfl #[] rfl hL_ ?_; (with_reducible refine (sleuthlaw15_awake.calls k  true _ A3.out (by first | exact hG | exact GOK.below hG hC_)).mono ?_); rintro e w0 ⟨rfl, hb⟩; refine ⟨_, rfl, ?_⟩; replace B0 := a_ (bB_ B0.out hb); replace B1 := a_ (bB_ B1.out hb); replace HB := a_ (below_step hC_ hb); (try clear hb); (try clear hb2); (try clear hk); (try clear hi); have m0 := N0.out; have n0 := N1.out; obtain ⟨z0, z1, z2, z3, f0, f1, f2, f3⟩ := bx4_ B0.out) | ((with_reducible refine gate_callee (f := 8) rfl ?_); refine goesL_ (some 14) rfl rfl Tryd.func8 (by kernel_rfl) rfl #[.agg #[.int .i64 a0_0, .int .i64 a0_1, .slice A0_2 l0_2.length c0_2, .string a0_3]] rfl hL_ ?_; (with_reducible refine (record_Put.calls k a0_0 a0_1 _ _ l0_2 a0_3 t0 t1 _ ?s1 ?s2 A5.out (by first | exact hG | exact GOK.below hG hC_)).mono ?_); (case s1 => exact cB_ HR0_2.out); (case s2 => exact HC0_2.out); rintro e w1 ⟨rfl, hb⟩; refine ⟨_, rfl, ?_⟩; replace B0 := a_ (bB_ B0.out hb); replace B1 := a_ (bB_ B1.out hb); replace HB := a_ (below_step hC_ hb); (try clear hb); (try clear hb2); (try clear hk); (try clear hi); obtain ⟨z4, z5, z6, z7, f4, f5, f6, f7⟩ := bx4_ B1.out) | ((with_reducible refine gate_callee (f := 8) rfl ?_); refine goesL_ (some 19) rfl rfl Tryd.func8 (by kernel_rfl) rfl #[.agg #[.int .i64 a1_0, .int .i64 a1_1, .slice A1_2 l1_2.length c1_2, .string a1_3]] rfl hL_ ?_; (with_reducible refine (record_Put.calls k a1_0 a1_1 _ _ l1_2 a1_3 t2 t4 _ ?s1 ?s2 A6.out (by first | exact hG | exact GOK.below hG hC_)).mono ?_); (case s1 => exact cB_ HR1_2.out); (case s2 => exact HC1_2.out); rintro e w2 ⟨rfl, hb⟩; refine ⟨_, rfl, ?_⟩; replace B0 := a_ (bB_ B0.out hb); replace B1 := a_ (bB_ B1.out hb); replace HB := a_ (below_step hC_ hb); (try clear hb); (try clear hb2); (try clear hk); (try clear hi)))
 (try simp only [Act.put, List.setIfInBounds_toArray, List.set_cons_zero, List.set_cons_succ])
 go_cut [29] (fun v0 wc => ∃ (kq : Nat) (x0 : Bool), v0 = .bool x0 ∧ Aside0 (sleuthlaw15_RecordUnlike.j0 kq t0 t1 t2 t4 x0 a0_0 a0_1 l0_2 a0_3 a1_0 a1_1 l1_2 a1_3 = some r) ∧ Aside0 (kq ≤ k) ∧ Aside0 (wc.heap[g0]? = some (.cells #[.int .i64 a0_0, .int .i64 a0_1, (.slice A0_2 l0_2.length c0_2), .string a0_3] 24 (0, 0))) ∧ Aside0 (wc.heap[g1]? = some (.cells #[.int .i64 a1_0, .int .i64 a1_1, (.slice A1_2 l1_2.length c1_2), .string a1_3] 24 (0, 0))) ∧ Aside0 (Below w.heap.size w wc))
 case first =>
  have H := HC7.out
  clear HC7
  replace H := Option.bind_eq_some_iff.mp H
  obtain ⟨t5, A160, H⟩ := H
  try dsimp only at H
  have A16 := a_ A160
  clear A160
  by_cases c17 : t5 = 0
  case neg =>
   rw [if_neg c17] at H
   have c17b0 : (t5 == 0) = false := beq_eq_false_iff_ne.mpr c17
   have c17b1 : (t5 != 0) = true := bne_iff_ne.mpr c17
   (first | rw [c17b0] | (simp only [i64_w, i32_w]; rw [c17b0]) | skip)
   have H' := a_ H
   clear H
   go_wp2_with (first | ((with_reducible refine gate_callee (f := 12) rfl ?_); refine goesL_ _ rfl rfl Tryd.func12 (by kernel_rfl) rfl #[.int .i64 t1] rfl hL_ ?_; (with_reducible refine (sleuthlaw0_Num.calls t1 t5 _ A16.out).mono ?_); rintro e w' ⟨rfl, ⟨nd, rfl⟩⟩; refine ⟨_, rfl, ?_⟩))
   go_meet
   case rel => exact ⟨_, (true), hW_, H', ⟨by first | omega | exact Nat.le_refl _⟩, ⟨(hK_ B0.out)⟩, ⟨(hK_ B1.out)⟩, ⟨hC_⟩⟩
  rw [if_pos c17] at H
  have c17b0 : (t5 == 0) = true := beq_iff_eq.mpr c17
  have c17b1 : (t5 != 0) = false := bne_eq_false_iff_eq.mpr c17
  clear c17
  (first | rw [c17b0] | (simp only [i64_w, i32_w]; rw [c17b0]) | skip)
  replace H := Option.bind_eq_some_iff.mp H
  obtain ⟨t9, A180, H⟩ := H
  try dsimp only at H
  have A18 := a_ A180
  clear A180
  have H' := a_ H
  clear H
  go_wp2_with (first | ((with_reducible refine gate_callee (f := 12) rfl ?_); refine goesL_ _ rfl rfl Tryd.func12 (by kernel_rfl) rfl #[.int .i64 t1] rfl hL_ ?_; (with_reducible refine (sleuthlaw0_Num.calls t1 t5 _ A16.out).mono ?_); rintro e w' ⟨rfl, ⟨nd, rfl⟩⟩; refine ⟨_, rfl, ?_⟩) | (go_at_call 12; (with_reducible refine (sleuthlaw0_Num.calls t4 t9 _ A18.out).mono ?_); rintro e w' ⟨rfl, ⟨nd, rfl⟩⟩))
  go_meet
  case rel => exact ⟨_, ((t9 != 0)), hW_, H', ⟨by first | omega | exact Nat.le_refl _⟩, ⟨(hK_ B0.out)⟩, ⟨(hK_ B1.out)⟩, ⟨hC_⟩⟩
 case rest =>
  clear HC7
  try clear c1
  try clear p2
  try clear c4
  try clear c5
  try clear c8
  try clear c11
  try clear c12
  try clear c15
  try clear c17
  try clear c17b0
  try clear c17b1
  try clear z0
  try clear z1
  try clear z2
  try clear z3
  try clear z4
  try clear z5
  try clear z6
  try clear z7
  try clear f0
  try clear f1
  try clear f2
  try clear f3
  try clear f4
  try clear f5
  try clear f6
  try clear f7
  obtain ⟨kq, x0, rfl, HA, HJ6, B0, B1, HB⟩ := hcut
  cases kq with
  | zero => exact absurd HA.out (by simp [sleuthlaw15_RecordUnlike.j0])
  | succ kj6 =>
   have H := HA.out
   clear HA
   simp only [sleuthlaw15_RecordUnlike.j0] at H
   by_cases c19 : x0 = true
   case pos =>
    subst c19
    rw [if_pos rfl] at H
    replace H := Option.bind_eq_some_iff.mp H
    obtain ⟨t3, A200, H⟩ := H
    try dsimp only at H
    have A20 := a_ A200
    clear A200
    by_cases c21 : t3 = 0
    case pos =>
     rw [if_pos c21] at H
     have c21b0 : (t3 == 0) = true := beq_iff_eq.mpr c21
     have c21b1 : (t3 != 0) = false := bne_eq_false_iff_eq.mpr c21
     clear c21
     replace H := Option.bind_eq_some_iff.mp H
     obtain ⟨t6, A220, H⟩ := H
     try dsimp only at H
     have A22 := a_ A220
     clear A220
     by_cases c23 : t6 = 0
     case neg =>
      rw [if_neg c23] at H
      have c23b0 : (t6 == 0) = false := beq_eq_false_iff_ne.mpr c23
      have c23b1 : (t6 != 0) = true := bne_iff_ne.mpr c23
      obtain rfl := Option.some.inj H
      go_wp2_with (first | ((with_reducible refine gate_callee (f := 12) rfl ?_); refine goesL_ _ rfl rfl Tryd.func12 (by kernel_rfl) rfl #[.int .i64 t1] rfl hL_ ?_; (with_reducible refine (sleuthlaw0_Num.calls t1 t3 _ A20.out).mono ?_); rintro e w' ⟨rfl, ⟨nd, rfl⟩⟩; refine ⟨_, rfl, ?_⟩) | (go_at_call 12; (with_reducible refine (sleuthlaw0_Num.calls t4 t6 _ A22.out).mono ?_); rintro e w' ⟨rfl, ⟨nd, rfl⟩⟩))
      go_ret
      exact ⟨hV_, hC_⟩
     rw [if_pos c23] at H
     have c23b0 : (t6 == 0) = true := beq_iff_eq.mpr c23
     have c23b1 : (t6 != 0) = false := bne_eq_false_iff_eq.mpr c23
     clear c23
     obtain rfl := Option.some.inj H
     go_wp2_with (first | ((with_reducible refine gate_callee (f := 12) rfl ?_); refine goesL_ _ rfl rfl Tryd.func12 (by kernel_rfl) rfl #[.int .i64 t1] rfl hL_ ?_; (with_reducible refine (sleuthlaw0_Num.calls t1 t3 _ A20.out).mono ?_); rintro e w' ⟨rfl, ⟨nd, rfl⟩⟩; refine ⟨_, rfl, ?_⟩) | (go_at_call 12; (with_reducible refine (sleuthlaw0_Num.calls t4 t6 _ A22.out).mono ?_); rintro e w' ⟨rfl, ⟨nd, rfl⟩⟩))
     go_ret
     exact ⟨hV_, hC_⟩
    rw [if_neg c21] at H
    have c21b0 : (t3 == 0) = false := beq_eq_false_iff_ne.mpr c21
    have c21b1 : (t3 != 0) = true := bne_iff_ne.mpr c21
    by_cases c24 : t0.toList = ([] : List UInt8)
    case neg =>
     rw [if_neg c24] at H
     have c24b0 : (t0.toList == ([] : List UInt8)) = false := beq_eq_false_iff_ne.mpr c24
     have c24b1 : (t0.toList != ([] : List UInt8)) = true := bne_iff_ne.mpr c24
     cases H
    rw [if_pos c24] at H
    have c24b0 : (t0.toList == ([] : List UInt8)) = true := beq_iff_eq.mpr c24
    have c24b1 : (t0.toList != ([] : List UInt8)) = false := bne_eq_false_iff_eq.mpr c24
    clear c24
    replace H := Option.bind_eq_some_iff.mp H
    obtain ⟨t7, A250, H⟩ := H
    try dsimp only at H
    have A25 := a_ A250
    clear A250
    by_cases c26 : t7 = 0
    case neg =>
     rw [if_neg c26] at H
     have c26b0 : (t7 == 0) = false := beq_eq_false_iff_ne.mpr c26
     have c26b1 : (t7 != 0) = true := bne_iff_ne.mpr c26
     obtain rfl := Option.some.inj H
     go_wp2_with (first | ((with_reducible refine gate_callee (f := 12) rfl ?_); refine goesL_ _ rfl rfl Tryd.func12 (by kernel_rfl) rfl #[.int .i64 t1] rfl hL_ ?_; (with_reducible refine (sleuthlaw0_Num.calls t1 t3 _ A20.out).mono ?_); rintro e w' ⟨rfl, ⟨nd, rfl⟩⟩; refine ⟨_, rfl, ?_⟩) | (go_at_call 12; (with_reducible refine (sleuthlaw0_Num.calls t4 t7 _ A25.out).mono ?_); rintro e w' ⟨rfl, ⟨nd, rfl⟩⟩))
     go_ret
     exact ⟨hV_, hC_⟩
    rw [if_pos c26] at H
    have c26b0 : (t7 == 0) = true := beq_iff_eq.mpr c26
    have c26b1 : (t7 != 0) = false := bne_eq_false_iff_eq.mpr c26
    clear c26
    obtain rfl := Option.some.inj H
    go_wp2_with (first | ((with_reducible refine gate_callee (f := 12) rfl ?_); refine goesL_ _ rfl rfl Tryd.func12 (by kernel_rfl) rfl #[.int .i64 t1] rfl hL_ ?_; (with_reducible refine (sleuthlaw0_Num.calls t1 t3 _ A20.out).mono ?_); rintro e w' ⟨rfl, ⟨nd, rfl⟩⟩; refine ⟨_, rfl, ?_⟩) | (go_at_call 12; (with_reducible refine (sleuthlaw0_Num.calls t4 t7 _ A25.out).mono ?_); rintro e w' ⟨rfl, ⟨nd, rfl⟩⟩))
    go_ret
    exact ⟨hV_, hC_⟩
   replace c19 := Bool.eq_false_iff.mpr c19
   subst c19
   rw [if_neg (show ¬ (false = true) by decide)] at H
   obtain ⟨ji27, hji27⟩ : ∃ j_ : Int, (mn (t0.size : Int) (t2.size : Int)) = j_ := ⟨_, rfl⟩
   replace H : (if 0 ≤ (ji27) then (if (ji27) ≤ (t0.size : Int) then (if (ji27) ≤ (t2.size : Int) then ((sleuthlaw0_SameNode.f kj6 a0_0 a0_1 l0_2 a0_3 a1_0 a1_1 l1_2 a1_3).bind fun t8 => (some (((t0.extract 0 ((ji27) : Int).toNat).toList == (t2.extract 0 ((ji27) : Int).toNat).toList) == t8))) else (none)) else (none)) else (none)) = some r := by first | (rw [hji27] at H; exact H) | (simp only [hji27] at H ⊢; exact H)
   have hji27_ : (if (t2.size : Int) < (t0.size : Int) then (t2.size : Int) else (t0.size : Int)) = ji27 := hji27
   (try have hji27_n : (if t2.size < t0.size then (t2.size : Int) else (t0.size : Int)) = ji27 := by have h_ := hji27_; simp only [Int.ofNat_lt] at h_; exact h_)
   replace H := ifI_ H; obtain ⟨c28, H⟩ := H
   have c28b0 := eq_true c28
   have c28b1 : decide (0 ≤ (ji27)) = true := decide_eq_true c28
   clear c28
   replace H := ifI_ H; obtain ⟨c29, H⟩ := H
   have c29b0 := eq_true c29
   have c29b1 : decide ((ji27) ≤ (t0.size : Int)) = true := decide_eq_true c29
   clear c29
   have c30b0 := eq_true (of_decide_eq_true hA_ : 0 ≤ (ji27))
   replace H := ifI_ H; obtain ⟨c31, H⟩ := H
   have c31b0 := eq_true c31
   have c31b1 : decide ((ji27) ≤ (t2.size : Int)) = true := decide_eq_true c31
   clear c31
   replace H := Option.bind_eq_some_iff.mp H
   obtain ⟨t8, A320, H⟩ := H
   try dsimp only at H
   have A32 := a_ A320
   clear A320
   obtain rfl := Option.some.inj H
   try go_wp2
   replace B0 := a_ (blk_drew B0.out)
   replace B1 := a_ (blk_drew B1.out)
   replace HB := a_ (below_drew1 HB.out)
   refine start_ (n := 12) (S := fun w' => w'.cell? ⟨g0, 0, none⟩ = some (.int .i64 a0_0) ∧ w'.cell? ⟨g0, 1, none⟩ = some (.int .i64 a0_1) ∧ w'.cell? ⟨g0, 2, none⟩ = some (.slice A0_2 l0_2.length c0_2) ∧ w'.cell? ⟨g0, 3, none⟩ = some (.string a0_3) ∧ w'.cell? ⟨g1, 0, none⟩ = some (.int .i64 a1_0) ∧ w'.cell? ⟨g1, 1, none⟩ = some (.int .i64 a1_1) ∧ w'.cell? ⟨g1, 2, none⟩ = some (.slice A1_2 l1_2.length c1_2) ∧ w'.cell? ⟨g1, 3, none⟩ = some (.string a1_3)) (ds := []) #[false, false, false, false, false, false, false, false, false, false, false, false] (by kernel_rfl) rfl rfl ⟨(blk_cell B0.out 0).trans rfl, (blk_cell B0.out 1).trans rfl, (blk_cell B0.out 2).trans rfl, (blk_cell B0.out 3).trans rfl, (blk_cell B1.out 0).trans rfl, (blk_cell B1.out 1).trans rfl, (blk_cell B1.out 2).trans rfl, (blk_cell B1.out 3).trans rfl⟩ (fun hHeld => ?_); refine with_tabW sleuthlaw15_RecordUnlike.tab8 sleuthlaw15_RecordUnlike.bits8 (fun HT_ HW_ => ?_)
   generalize wc.drew = w3 at B0 B1 HB hHeld ⊢
   refine pB_ 0 51 HT_.out ?_
   refine pB_ 1 52 HT_.out ?_
   refine pB_ 2 53 HT_.out ?_
   refine pB_ 3 54 HT_.out ?_
   refine pB_ 4 55 HT_.out ?_
   refine pB_ 5 56 HT_.out ?_
   refine pB_ 6 57 HT_.out ?_
   refine tB_ 7 58 HT_.out HW_.out hHeld ?_
   refine tB_ 8 59 HT_.out HW_.out hHeld ?_
   refine one_ (i := 9) (N := some 60) #[true, true, true, true, true, true, true, true, true, true, false, false] rfl rfl (one_of HT_.out (by kernel_rfl)) (by decide) (fun K hK => ?_)
   refine goes_ Tryd.func13 (by kernel_rfl) rfl #[.agg #[.int .i64 a0_0, .int .i64 a0_1, .slice A0_2 l0_2.length c0_2, .string a0_3], .agg #[.int .i64 a1_0, .int .i64 a1_1, .slice A1_2 l1_2.length c1_2, .string a1_3]] (by rfl) rfl rfl hL_ ?_
   with_reducible refine (sleuthlaw0_SameNode.calls kj6 a0_0 a0_1 _ _ l0_2 a0_3 a1_0 a1_1 _ _ l1_2 a1_3 t8 _ ?s1 ?s2 ?s3 ?s4 A32.out).mono ?_
   (case s1 => exact cB_ HR0_2.out)
   (case s2 => exact HC0_2.out)
   (case s3 => exact cB_ HR1_2.out)
   (case s4 => exact HC1_2.out)
   rintro e w4 ⟨rfl, hb⟩
   refine ⟨_, rfl, ?_⟩
   replace B0 := a_ (bB_ B0.out hb)
   replace B1 := a_ (bB_ B1.out hb)
   replace HB := a_ (below_step hC_ hb)
   (try clear hb)
   (try clear hb2)
   (try clear hk)
   (try clear hi)
   refine hK.out _ _ ⟨(blk_cell B0.out 0).trans rfl, (blk_cell B0.out 1).trans rfl, (blk_cell B0.out 2).trans rfl, (blk_cell B0.out 3).trans rfl, (blk_cell B1.out 0).trans rfl, (blk_cell B1.out 1).trans rfl, (blk_cell B1.out 2).trans rfl, (blk_cell B1.out 3).trans rfl⟩ (fun hHeld => ?_)
   clear hK K
   refine norm_ (a' := ?_) ?_ ?_
   rotate_left
   · show Act.put _ (some 60) _ = _
     simp only [Act.put, List.setIfInBounds_toArray, List.set_cons_zero, List.set_cons_succ, i64_w, i32_w]
     rfl
   refine pB_ 10 61 HT_.out ?_
   refine pB_ 11 4 HT_.out ?_
   refine done_ (done_of HT_.out (by kernel_rfl)) ?_
   try go_wp2
   go_ret
   exact ⟨by first | rfl | (simp [errW_none, errW_some] <;> rfl) | (simp only [← hji27]; first | rfl | (simp [errW_none, errW_some] <;> rfl)) | (simp [*, errW_none, errW_some] <;> rfl), hC_⟩
end Go.Proofs.YthoegphcmkejoaaDoor.G
