-- Laid by the session's own driver gp.py over the kit's printer. Not trusted: Lean checks it.
import Derived.Test.YtljlmkbcichlpaaDoorTHead
import Derived.Test.YtljlmkbcichlpaaDoorG0
import Derived.Test.YtljlmkbcichlpaaDoorG3
import Derived.Test.YtljlmkbcichlpaaDoorG5
import Derived.Test.YtljlmkbcichlpaaDoorG6
namespace Go.Proofs.YtljlmkbcichlpaaDoor.G
open Go.RowKit Go.Proofs.YtljlmkbcichlpaaDoorW.PrintWords Go.Proofs.YtljlmkbcichlpaaDoorW.PrintLast Go.Proofs.YtljlmkbcichlpaaDoorW.PrintMore
set_option maxHeartbeats 8000000
set_option maxRecDepth 100000
attribute [local go_sem] max2_int min2_int max_two min_two max_three min_three max_four min_four   -- for this text's walks alone
set_option linter.unusedVariables false
set_option linter.unusedSimpArgs false

mutual
def sleuthlaw4_LexBrackets.l0 : Nat → List ByteArray → Int → Option (Bool)
 | 0, _, _ => none
 | k + 1, x3, x5 => if x5 < (x3.length : Int) then (if 0 ≤ x5 then (if (rdOf ByteArray.empty x3 x5).toList = ([] : List UInt8) then (none) else (sleuthlaw4_LexBrackets.l1 k x3 x5 0)) else (none)) else (some true)
def sleuthlaw4_LexBrackets.l1 : Nat → List ByteArray → Int → Int → Option (Bool)
 | 0, _, _, _ => none
 | k + 1, x3, x5, x6 => if 0 ≤ x5 then (if x5 < (x3.length : Int) then (if x6 < ((rdOf ByteArray.empty x3 x5).size : Int) then (if 0 ≤ x6 then (if (bt (rdOf ByteArray.empty x3 x5) x6) = 32 then (none) else (if (bt (rdOf ByteArray.empty x3 x5) x6) = 10 then (none) else (if (bt (rdOf ByteArray.empty x3 x5) x6) = 35 then (none) else (if (bt (rdOf ByteArray.empty x3 x5) x6) = 40 then (if ((rdOf ByteArray.empty x3 x5).size : Int) > 1 then (none) else (sleuthlaw4_LexBrackets.l1 k x3 x5 (wrap64 (x6 + 1)))) else (if (bt (rdOf ByteArray.empty x3 x5) x6) = 41 then (if ((rdOf ByteArray.empty x3 x5).size : Int) > 1 then (none) else (sleuthlaw4_LexBrackets.l1 k x3 x5 (wrap64 (x6 + 1)))) else (sleuthlaw4_LexBrackets.l1 k x3 x5 (wrap64 (x6 + 1)))))))) else (none)) else (sleuthlaw4_LexBrackets.l0 k x3 (wrap64 (x5 + 1)))) else (none)) else (none)
end
def sleuthlaw4_LexBrackets.f (k : Nat) (a0 : ByteArray) : Option (Bool) := (sleuthlaw4_awake.f k).bind fun t219 => (if t219 = true then ((lex_Words.f a0).bind fun bt220 => ((sleuthlaw0_Num.f bt220.2).bind fun t224 => (if t224 = 0 then (sleuthlaw4_LexBrackets.l0 k bt220.1 0) else (some ((bt220.1.length : Int) == 0))))) else (none))
theorem sleuthlaw4_LexBrackets.calls (k : Nat) (a0 : ByteArray) (r : Bool) (w : World) (h : sleuthlaw4_LexBrackets.f k a0 = some r) (hG : GOK w) :
 Calls Tryd.prog 7 #[.string a0] w fun e w' => e = .returned (.bool r) ∧ Below w.heap.size w w' := by
 have HB := a_ (Below.refl w.heap.size w)
 have H := h; unfold sleuthlaw4_LexBrackets.f at H
 clear h
 replace H := Option.bind_eq_some_iff.mp H
 obtain ⟨t3, A20, H⟩ := H
 try dsimp only at H
 have A2 := a_ A20
 clear A20
 by_cases c3 : t3 = true
 case neg =>
  replace c3 := Bool.eq_false_iff.mpr c3
  subst c3
  rw [if_neg (show ¬ (false = true) by decide)] at H
  cases H
 subst c3
 rw [if_pos rfl] at H
 replace H := Option.bind_eq_some_iff.mp H
 obtain ⟨⟨t0, t2⟩, A40, H⟩ := H
 try dsimp only at H
 have A4 := a_ A40
 clear A40
 replace H := Option.bind_eq_some_iff.mp H
 obtain ⟨t1, A50, H⟩ := H
 try dsimp only at H
 have A5 := a_ A50
 clear A50
 by_cases c6 : t1 = 0
 case neg =>
  rw [if_neg c6] at H
  have c6b0 : (t1 == 0) = false := beq_eq_false_iff_ne.mpr c6
  have c6b1 : (t1 != 0) = true := bne_iff_ne.mpr c6
  obtain rfl := Option.some.inj H
  go_enter Tryd.func7, Tryd.ntmps7
  go_wp2_with (first | ((with_reducible refine gate_callee (f := 13) rfl ?_); refine goesL_ (some 8) rfl rfl Tryd.func13 (by kernel_rfl) rfl #[] rfl hL_ ?_; (with_reducible refine (sleuthlaw4_awake.calls k  true _ A2.out hG_).mono ?_); rintro e w0 ⟨rfl, hb⟩; refine ⟨_, rfl, ?_⟩; replace HB := a_ (below_step hB_ hb); (try clear hb); (try clear hb2); (try clear hk); (try clear hi)) | ((with_reducible refine gate_callee (f := 8) rfl ?_); refine goesL_ (some 12) rfl rfl Tryd.func8 (by kernel_rfl) rfl #[.string a0] rfl hL_ ?_; (with_reducible refine (lex_Words.calls a0 t0 t2 _ A4.out hG_).mono ?_); rintro e w1 ⟨v0, rfl, ho0, hb⟩; refine ⟨_, rfl, ?_⟩; have P0 := a_ (Kd.R_lower ho0 hS_); replace HB := a_ (below_step hB_ hb); (try clear hb); (try clear hb2); (try clear hk); (try clear hi); (try clear ho0)) | ((with_reducible refine gate_callee (f := 11) rfl ?_); refine goesL_ _ rfl rfl Tryd.func11 (by kernel_rfl) rfl #[.int .i64 t2] rfl hL_ ?_; (with_reducible refine (sleuthlaw0_Num.calls t2 t1 _ A5.out).mono ?_); rintro e w' ⟨rfl, ⟨nd, rfl⟩⟩; refine ⟨_, rfl, ?_⟩; obtain ⟨a1, o1, e0⟩ := Kd.R_slice P0.out; subst e0))
  go_ret
  exact ⟨hV_, hC_⟩
 rw [if_pos c6] at H
 have c6b0 : (t1 == 0) = true := beq_iff_eq.mpr c6
 have c6b1 : (t1 != 0) = false := bne_eq_false_iff_eq.mpr c6
 clear c6
 have H' := a_ H
 clear H
 go_enter Tryd.func7, Tryd.ntmps7
 go_wp2_with (first | ((with_reducible refine gate_callee (f := 13) rfl ?_); refine goesL_ (some 8) rfl rfl Tryd.func13 (by kernel_rfl) rfl #[] rfl hL_ ?_; (with_reducible refine (sleuthlaw4_awake.calls k  true _ A2.out hG_).mono ?_); rintro e w7 ⟨rfl, hb⟩; refine ⟨_, rfl, ?_⟩; replace HB := a_ (below_step hB_ hb); (try clear hb); (try clear hb2); (try clear hk); (try clear hi)) | ((with_reducible refine gate_callee (f := 8) rfl ?_); refine goesL_ (some 12) rfl rfl Tryd.func8 (by kernel_rfl) rfl #[.string a0] rfl hL_ ?_; (with_reducible refine (lex_Words.calls a0 t0 t2 _ A4.out hG_).mono ?_); rintro e w8 ⟨v0, rfl, ho0, hb⟩; refine ⟨_, rfl, ?_⟩; have P0 := a_ (Kd.R_lower ho0 hS_); replace HB := a_ (below_step hB_ hb); (try clear hb); (try clear hb2); (try clear hk); (try clear hi); (try clear ho0)) | ((with_reducible refine gate_callee (f := 11) rfl ?_); refine goesL_ _ rfl rfl Tryd.func11 (by kernel_rfl) rfl #[.int .i64 t2] rfl hL_ ?_; (with_reducible refine (sleuthlaw0_Num.calls t2 t1 _ A5.out).mono ?_); rintro e w' ⟨rfl, ⟨nd, rfl⟩⟩; refine ⟨_, rfl, ?_⟩))
 go_loopg [5] k (fun kq v5 w' => ∃ (x0 : Int), v5 = .int .i64 x0 ∧ Aside0 (sleuthlaw4_LexBrackets.l0 kq t0 x0 = some r) ∧ Aside0 (kq ≤ k) ∧ Aside0 (Kd.R Kd.string 9 w' w.heap.size (fun _ => True) v0 t0) ∧ Aside0 (Below w.heap.size w w'))
 case atStart => exact ⟨(0), hW_, H', ⟨Nat.le_refl _⟩, ⟨hR_ P0.out⟩, ⟨hC_⟩⟩
 case round =>
  clear H'
  try clear c1
  try clear p2
  try clear c3
  try clear c6
  try clear c6b0
  try clear c6b1
  try clear c7
  try clear c8
  obtain ⟨x0, rfl, HA, HK1, O0, HB⟩ := hrel
  cases gk with
  | zero => exact absurd HA.out (by simp [sleuthlaw4_LexBrackets.l0])
  | succ k1 =>
   have H := HA.out
   clear HA
   simp only [sleuthlaw4_LexBrackets.l0] at H
   by_cases c9 : x0 < (t0.length : Int)
   case neg =>
    rw [if_neg c9] at H
    have c9b0 : decide (x0 < (t0.length : Int)) = false := decide_eq_false c9
    clear c9
    obtain rfl := Option.some.inj H
    obtain ⟨a2, o2, e1⟩ := Kd.R_slice O0.out
    subst e1
    go_wp2
    go_ret
    exact ⟨hV_, hC_⟩
   rw [if_pos c9] at H
   have c9b0 : decide (x0 < (t0.length : Int)) = true := decide_eq_true c9
   clear c9
   replace H := ifI_ H; obtain ⟨c10, H⟩ := H
   have c10b0 : decide (0 ≤ x0) = true := decide_eq_true c10
   clear c10
   by_cases c11 : (rdOf ByteArray.empty t0 x0).toList = ([] : List UInt8)
   case pos =>
    rw [if_pos c11] at H
    have c11b0 : ((rdOf ByteArray.empty t0 x0).toList == ([] : List UInt8)) = true := beq_iff_eq.mpr c11
    have c11b1 : ((rdOf ByteArray.empty t0 x0).toList != ([] : List UInt8)) = false := bne_eq_false_iff_eq.mpr c11
    have c11b2 : (rdOf ByteArray.empty t0 x0).toList.isEmpty = true := List.isEmpty_iff.mpr c11
    clear c11
    cases H
   rw [if_neg c11] at H
   have c11b0 : ((rdOf ByteArray.empty t0 x0).toList == ([] : List UInt8)) = false := beq_eq_false_iff_ne.mpr c11
   have c11b1 : ((rdOf ByteArray.empty t0 x0).toList != ([] : List UInt8)) = true := bne_iff_ne.mpr c11
   have c11b2 : (rdOf ByteArray.empty t0 x0).toList.isEmpty = false := (by rw [Bool.eq_false_iff]; exact fun h_ => c11 (List.isEmpty_iff.mp h_))
   have H' := a_ H
   clear H
   obtain ⟨a3, o0, e2⟩ := Kd.R_slice O0.out
   subst e2
   have p225 : 0 ≤ (x0 : Int) := of_decide_eq_true hA_
   have q225 : x0 < (t0.length : Int) := of_decide_eq_true hA_
   obtain ⟨d0, e225, h3⟩ := Kd.at_string (Kd.R_reads' O0.out).2.2 x0 p225 q225
   cases e225
   replace p225 := eq_true p225
   replace q225 := eq_true q225
   go_wp2
   go_loopg [6] k1 (fun kq v6 w' => ∃ (x1 : Int), v6 = .int .i64 x1 ∧ Aside0 (sleuthlaw4_LexBrackets.l1 kq t0 x0 x1 = some r) ∧ Aside0 (kq ≤ k1) ∧ Aside0 (Kd.R Kd.string 9 w' w.heap.size (fun _ => True) (.slice (some d0) t0.length o0) t0) ∧ Aside0 (Below w.heap.size w w'))
   case atStart => exact ⟨(0), hW_, H', ⟨Nat.le_refl _⟩, ⟨hR_ O0.out⟩, ⟨hC_⟩⟩
   case round =>
    clear H'
    try clear c1
    try clear p2
    try clear q2
    try clear h4
    try clear c3
    try clear c6
    try clear c6b0
    try clear c6b1
    try clear c7
    try clear c8
    try clear c9
    try clear c9b0
    try clear c10
    try clear c10b0
    try clear c11
    try clear c11b0
    try clear c11b1
    try clear c13
    try clear h3
    try clear p2
    try clear p225
    try clear q225
    obtain ⟨x1, rfl, HA, HK2, O0, HB⟩ := hrel
    cases gk with
    | zero => exact absurd HA.out (by simp [sleuthlaw4_LexBrackets.l1])
    | succ k2 =>
     have H := HA.out
     clear HA
     simp only [sleuthlaw4_LexBrackets.l1] at H
     replace H := ifI_ H; obtain ⟨c14, H⟩ := H
     have c14b0 : decide (0 ≤ x0) = true := decide_eq_true c14
     clear c14
     replace H := ifI_ H; obtain ⟨c15, H⟩ := H
     have c15b0 : decide (x0 < (t0.length : Int)) = true := decide_eq_true c15
     clear c15
     by_cases c16 : x1 < ((rdOf ByteArray.empty t0 x0).size : Int)
     case neg =>
      rw [if_neg c16] at H
      have c16b0 : decide (x1 < ((rdOf ByteArray.empty t0 x0).size : Int)) = false := decide_eq_false c16
      clear c16
      have H' := a_ H
      clear H
      have p226 : 0 ≤ (x0 : Int) := of_decide_eq_true hA_
      have q226 : x0 < (t0.length : Int) := of_decide_eq_true hA_
      obtain ⟨d1, e226, h0⟩ := Kd.at_string (Kd.R_reads' O0.out).2.2 x0 p226 q226
      obtain rfl : d0 = d1 := (by injection e226)
      replace p226 := eq_true p226
      replace q226 := eq_true q226
      go_wp2
      go_roundg k2
      case measure => have := HK1.out; have := HK2.out; omega
      case rel => exact ⟨(wrap64 (x0 + 1)), hW_, H', ⟨by have := HK1.out; have := HK2.out; omega⟩, ⟨hR_ O0.out⟩, ⟨hC_⟩⟩
     rw [if_pos c16] at H
     have c16b0 : decide (x1 < ((rdOf ByteArray.empty t0 x0).size : Int)) = true := decide_eq_true c16
     clear c16
     replace H := ifI_ H; obtain ⟨c17, H⟩ := H
     have c17b0 : decide (0 ≤ x1) = true := decide_eq_true c17
     clear c17
     by_cases c19 : (bt (rdOf ByteArray.empty t0 x0) x1) = 32
     case pos =>
      rw [if_pos c19] at H
      have c19b0 : ((bt (rdOf ByteArray.empty t0 x0) x1) == 32) = true := beq_iff_eq.mpr c19
      have c19b1 : ((bt (rdOf ByteArray.empty t0 x0) x1) != 32) = false := bne_eq_false_iff_eq.mpr c19
      clear c19
      cases H
     rw [if_neg c19] at H
     have c19b0 : ((bt (rdOf ByteArray.empty t0 x0) x1) == 32) = false := beq_eq_false_iff_ne.mpr c19
     have c19b1 : ((bt (rdOf ByteArray.empty t0 x0) x1) != 32) = true := bne_iff_ne.mpr c19
     by_cases c20 : (bt (rdOf ByteArray.empty t0 x0) x1) = 10
     case pos =>
      rw [if_pos c20] at H
      have c20b0 : ((bt (rdOf ByteArray.empty t0 x0) x1) == 10) = true := beq_iff_eq.mpr c20
      have c20b1 : ((bt (rdOf ByteArray.empty t0 x0) x1) != 10) = false := bne_eq_false_iff_eq.mpr c20
      clear c20
      cases H
     rw [if_neg c20] at H
     have c20b0 : ((bt (rdOf ByteArray.empty t0 x0) x1) == 10) = false := beq_eq_false_iff_ne.mpr c20
     have c20b1 : ((bt (rdOf ByteArray.empty t0 x0) x1) != 10) = true := bne_iff_ne.mpr c20
     by_cases c21 : (bt (rdOf ByteArray.empty t0 x0) x1) = 35
     case pos =>
      rw [if_pos c21] at H
      have c21b0 : ((bt (rdOf ByteArray.empty t0 x0) x1) == 35) = true := beq_iff_eq.mpr c21
      have c21b1 : ((bt (rdOf ByteArray.empty t0 x0) x1) != 35) = false := bne_eq_false_iff_eq.mpr c21
      clear c21
      cases H
     rw [if_neg c21] at H
     have c21b0 : ((bt (rdOf ByteArray.empty t0 x0) x1) == 35) = false := beq_eq_false_iff_ne.mpr c21
     have c21b1 : ((bt (rdOf ByteArray.empty t0 x0) x1) != 35) = true := bne_iff_ne.mpr c21
     by_cases c22 : (bt (rdOf ByteArray.empty t0 x0) x1) = 40
     case pos =>
      rw [if_pos c22] at H
      have c22b0 : ((bt (rdOf ByteArray.empty t0 x0) x1) == 40) = true := beq_iff_eq.mpr c22
      have c22b1 : ((bt (rdOf ByteArray.empty t0 x0) x1) != 40) = false := bne_eq_false_iff_eq.mpr c22
      clear c22
      by_cases c23 : ((rdOf ByteArray.empty t0 x0).size : Int) > 1
      case pos =>
       rw [if_pos c23] at H
       have c23b0 : decide (1 < ((rdOf ByteArray.empty t0 x0).size : Int)) = true := decide_eq_true c23
       have c23b1 : decide (1 < (rdOf ByteArray.empty t0 x0).size) = true := decide_eq_true (by omega)
       clear c23
       cases H
      rw [if_neg c23] at H
      have c23b0 : decide (1 < ((rdOf ByteArray.empty t0 x0).size : Int)) = false := decide_eq_false c23
      have c23b1 : decide (1 < (rdOf ByteArray.empty t0 x0).size) = false := decide_eq_false (by omega)
      clear c23
      have H' := a_ H
      clear H
      have p226 : 0 ≤ (x0 : Int) := of_decide_eq_true hA_
      have q226 : x0 < (t0.length : Int) := of_decide_eq_true hA_
      obtain ⟨d1, e226, h0⟩ := Kd.at_string (Kd.R_reads' O0.out).2.2 x0 p226 q226
      obtain rfl : d0 = d1 := (by injection e226)
      replace p226 := eq_true p226
      replace q226 := eq_true q226
      have p227 : 0 ≤ (x0 : Int) := of_decide_eq_true hA_
      have q227 : x0 < (t0.length : Int) := of_decide_eq_true hA_
      obtain ⟨d2, e227, h1⟩ := Kd.at_string (Kd.R_reads' O0.out).2.2 x0 p227 q227
      obtain rfl : d0 = d2 := (by injection e227)
      replace p227 := eq_true p227
      replace q227 := eq_true q227
      have p18 : 0 ≤ (x1 : Int) := of_decide_eq_true hA_
      have q18 : x1 < ((rdOf ByteArray.empty t0 x0).size : Int) := of_decide_eq_true hA_
      have h2 := bt_at (rdOf ByteArray.empty t0 x0) x1
      replace p18 := eq_true p18
      replace q18 := eq_true q18
      have p228 : 0 ≤ (x0 : Int) := of_decide_eq_true hA_
      have q228 : x0 < (t0.length : Int) := of_decide_eq_true hA_
      obtain ⟨d3, e228, h5⟩ := Kd.at_string (Kd.R_reads' O0.out).2.2 x0 p228 q228
      obtain rfl : d0 = d3 := (by injection e228)
      replace p228 := eq_true p228
      replace q228 := eq_true q228
      go_wp2
      go_roundg k2
      case measure => have := HK1.out; have := HK2.out; omega
      case rel => exact ⟨(wrap64 (x1 + 1)), hW_, H', ⟨by have := HK1.out; have := HK2.out; omega⟩, ⟨hR_ O0.out⟩, ⟨hC_⟩⟩
     rw [if_neg c22] at H
     have c22b0 : ((bt (rdOf ByteArray.empty t0 x0) x1) == 40) = false := beq_eq_false_iff_ne.mpr c22
     have c22b1 : ((bt (rdOf ByteArray.empty t0 x0) x1) != 40) = true := bne_iff_ne.mpr c22
     by_cases c24 : (bt (rdOf ByteArray.empty t0 x0) x1) = 41
     case neg =>
      rw [if_neg c24] at H
      have c24b0 : ((bt (rdOf ByteArray.empty t0 x0) x1) == 41) = false := beq_eq_false_iff_ne.mpr c24
      have c24b1 : ((bt (rdOf ByteArray.empty t0 x0) x1) != 41) = true := bne_iff_ne.mpr c24
      have H' := a_ H
      clear H
      have p226 : 0 ≤ (x0 : Int) := of_decide_eq_true hA_
      have q226 : x0 < (t0.length : Int) := of_decide_eq_true hA_
      obtain ⟨d1, e226, h0⟩ := Kd.at_string (Kd.R_reads' O0.out).2.2 x0 p226 q226
      obtain rfl : d0 = d1 := (by injection e226)
      replace p226 := eq_true p226
      replace q226 := eq_true q226
      have p227 : 0 ≤ (x0 : Int) := of_decide_eq_true hA_
      have q227 : x0 < (t0.length : Int) := of_decide_eq_true hA_
      obtain ⟨d2, e227, h1⟩ := Kd.at_string (Kd.R_reads' O0.out).2.2 x0 p227 q227
      obtain rfl : d0 = d2 := (by injection e227)
      replace p227 := eq_true p227
      replace q227 := eq_true q227
      have p18 : 0 ≤ (x1 : Int) := of_decide_eq_true hA_
      have q18 : x1 < ((rdOf ByteArray.empty t0 x0).size : Int) := of_decide_eq_true hA_
      have h2 := bt_at (rdOf ByteArray.empty t0 x0) x1
      replace p18 := eq_true p18
      replace q18 := eq_true q18
      go_wp2
      go_roundg k2
      case measure => have := HK1.out; have := HK2.out; omega
      case rel => exact ⟨(wrap64 (x1 + 1)), hW_, H', ⟨by have := HK1.out; have := HK2.out; omega⟩, ⟨hR_ O0.out⟩, ⟨hC_⟩⟩
     rw [if_pos c24] at H
     have c24b0 : ((bt (rdOf ByteArray.empty t0 x0) x1) == 41) = true := beq_iff_eq.mpr c24
     have c24b1 : ((bt (rdOf ByteArray.empty t0 x0) x1) != 41) = false := bne_eq_false_iff_eq.mpr c24
     clear c24
     by_cases c25 : ((rdOf ByteArray.empty t0 x0).size : Int) > 1
     case pos =>
      rw [if_pos c25] at H
      have c25b0 : decide (1 < ((rdOf ByteArray.empty t0 x0).size : Int)) = true := decide_eq_true c25
      have c25b1 : decide (1 < (rdOf ByteArray.empty t0 x0).size) = true := decide_eq_true (by omega)
      clear c25
      cases H
     rw [if_neg c25] at H
     have c25b0 : decide (1 < ((rdOf ByteArray.empty t0 x0).size : Int)) = false := decide_eq_false c25
     have c25b1 : decide (1 < (rdOf ByteArray.empty t0 x0).size) = false := decide_eq_false (by omega)
     clear c25
     have H' := a_ H
     clear H
     have p226 : 0 ≤ (x0 : Int) := of_decide_eq_true hA_
     have q226 : x0 < (t0.length : Int) := of_decide_eq_true hA_
     obtain ⟨d1, e226, h0⟩ := Kd.at_string (Kd.R_reads' O0.out).2.2 x0 p226 q226
     obtain rfl : d0 = d1 := (by injection e226)
     replace p226 := eq_true p226
     replace q226 := eq_true q226
     have p227 : 0 ≤ (x0 : Int) := of_decide_eq_true hA_
     have q227 : x0 < (t0.length : Int) := of_decide_eq_true hA_
     obtain ⟨d2, e227, h1⟩ := Kd.at_string (Kd.R_reads' O0.out).2.2 x0 p227 q227
     obtain rfl : d0 = d2 := (by injection e227)
     replace p227 := eq_true p227
     replace q227 := eq_true q227
     have p18 : 0 ≤ (x1 : Int) := of_decide_eq_true hA_
     have q18 : x1 < ((rdOf ByteArray.empty t0 x0).size : Int) := of_decide_eq_true hA_
     have h2 := bt_at (rdOf ByteArray.empty t0 x0) x1
     replace p18 := eq_true p18
     replace q18 := eq_true q18
     have p229 : 0 ≤ (x0 : Int) := of_decide_eq_true hA_
     have q229 : x0 < (t0.length : Int) := of_decide_eq_true hA_
     obtain ⟨d4, e229, h6⟩ := Kd.at_string (Kd.R_reads' O0.out).2.2 x0 p229 q229
     obtain rfl : d0 = d4 := (by injection e229)
     replace p229 := eq_true p229
     replace q229 := eq_true q229
     go_wp2
     go_roundg k2
     case measure => have := HK1.out; have := HK2.out; omega
     case rel => exact ⟨(wrap64 (x1 + 1)), hW_, H', ⟨by have := HK1.out; have := HK2.out; omega⟩, ⟨hR_ O0.out⟩, ⟨hC_⟩⟩
end Go.Proofs.YtljlmkbcichlpaaDoor.G
