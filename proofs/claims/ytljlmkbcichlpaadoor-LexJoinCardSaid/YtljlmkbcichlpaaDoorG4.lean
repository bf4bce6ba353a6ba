-- Laid by the session's own driver gp.py over the kit's printer. Not trusted: Lean checks it.
import Derived.Test.YtljlmkbcichlpaaDoorTHead
import Derived.Test.YtljlmkbcichlpaaDoorG0
namespace Go.Proofs.YtljlmkbcichlpaaDoor.G
open Go.RowKit Go.Proofs.YtljlmkbcichlpaaDoorW.PrintWords Go.Proofs.YtljlmkbcichlpaaDoorW.PrintLast Go.Proofs.YtljlmkbcichlpaaDoorW.PrintMore
set_option maxHeartbeats 8000000
set_option maxRecDepth 100000
attribute [local go_sem] max2_int min2_int max_two min_two max_three min_three max_four min_four   -- for this text's walks alone
set_option linter.unusedVariables false
set_option linter.unusedSimpArgs false

mutual
def sleuthref1_Words.l0 : Nat → ByteArray → Int → Option (List ByteArray × Int)
 | 0, _, _ => none
 | k + 1, x0, x4 => if x4 < (x0.size : Int) then (if 0 ≤ x4 then (if (bt x0 x4) = 10 then (sleuthref1_Words.l0 k x0 (wrap64 (x4 + 1))) else (if (bt x0 x4) < 32 then (some (([] : List ByteArray), 400)) else (if (bt x0 x4) > 126 then (some (([] : List ByteArray), 400)) else (sleuthref1_Words.l0 k x0 (wrap64 (x4 + 1)))))) else (none)) else (sleuthref1_Words.l1 k x0 ([] : List ByteArray) (⟨#[]⟩ : ByteArray) 0)
def sleuthref1_Words.l1 : Nat → ByteArray → List ByteArray → ByteArray → Int → Option (List ByteArray × Int)
 | 0, _, _, _, _ => none
 | k + 1, x0, x5, x6, x7 => if x7 ≤ (x0.size : Int) then (if x7 < (x0.size : Int) then (if 0 ≤ x7 then (sleuthref1_Words.j2 k x0 x5 x6 x7 (bt x0 x7)) else (none)) else (sleuthref1_Words.j2 k x0 x5 x6 x7 10)) else (some (x5, 0))
def sleuthref1_Words.j2 : Nat → ByteArray → List ByteArray → ByteArray → Int → Int → Option (List ByteArray × Int)
 | 0, _, _, _, _, _ => none
 | k + 1, x0, x5, x6, x7, x8 => if x8 = 10 then (sleuthref1_Words.j3 k x0 x5 x6 x7 x8 false) else (if x8 = 32 then (sleuthref1_Words.j3 k x0 x5 x6 x7 x8 false) else (if x8 = 40 then (sleuthref1_Words.j3 k x0 x5 x6 x7 x8 false) else (if x8 = 41 then (sleuthref1_Words.j3 k x0 x5 x6 x7 x8 false) else (sleuthref1_Words.j3 k x0 x5 x6 x7 x8 (x8 != 35)))))
def sleuthref1_Words.j3 : Nat → ByteArray → List ByteArray → ByteArray → Int → Int → Bool → Option (List ByteArray × Int)
 | 0, _, _, _, _, _, _ => none
 | k + 1, x0, x5, x6, x7, x8, x9 => if x9 = true then (if 0 ≤ x7 then (if x7 ≤ (wrap64 (x7 + 1)) then (if (wrap64 (x7 + 1)) ≤ (x0.size : Int) then (if x6.size + (x0.extract (x7 : Int).toNat ((wrap64 (x7 + 1)) : Int).toNat).size ≤ 9223372036854775807 then (sleuthref1_Words.l1 k x0 x5 (x6 ++ (x0.extract (x7 : Int).toNat ((wrap64 (x7 + 1)) : Int).toNat)) (wrap64 (x7 + 1))) else (none)) else (none)) else (none)) else (none)) else (if x6.toList = ([] : List UInt8) then (sleuthref1_Words.j4 k x0 x5 x6 x7 x8) else (if x5.length < 8796093022208 then (sleuthref1_Words.j4 k x0 (x5 ++ [x6]) (⟨#[]⟩ : ByteArray) x7 x8) else (none)))
def sleuthref1_Words.j4 : Nat → ByteArray → List ByteArray → ByteArray → Int → Int → Option (List ByteArray × Int)
 | 0, _, _, _, _, _ => none
 | k + 1, x0, x5, x6, x7, x8 => if x8 = 40 then (sleuthref1_Words.j5 k x0 x5 x6 x7 x8 true) else (sleuthref1_Words.j5 k x0 x5 x6 x7 x8 (x8 == 41))
def sleuthref1_Words.j5 : Nat → ByteArray → List ByteArray → ByteArray → Int → Int → Bool → Option (List ByteArray × Int)
 | 0, _, _, _, _, _, _ => none
 | k + 1, x0, x5, x6, x7, x8, x85 => if x85 = true then (if 0 ≤ x7 then (if x7 ≤ (wrap64 (x7 + 1)) then (if (wrap64 (x7 + 1)) ≤ (x0.size : Int) then (if x5.length < 8796093022208 then (sleuthref1_Words.j6 k x0 (x5 ++ [x0.extract (x7 : Int).toNat ((wrap64 (x7 + 1)) : Int).toNat]) x6 x7 x8) else (none)) else (none)) else (none)) else (none)) else (sleuthref1_Words.j6 k x0 x5 x6 x7 x8)
def sleuthref1_Words.j6 : Nat → ByteArray → List ByteArray → ByteArray → Int → Int → Option (List ByteArray × Int)
 | 0, _, _, _, _, _ => none
 | k + 1, x0, x5, x6, x7, x8 => sleuthref1_Words.l2 k x0 x5 x6 x7 x8
def sleuthref1_Words.l2 : Nat → ByteArray → List ByteArray → ByteArray → Int → Int → Option (List ByteArray × Int)
 | 0, _, _, _, _, _ => none
 | k + 1, x0, x5, x6, x7, x8 => if x8 = 35 then (if (wrap64 (x7 + 1)) < (x0.size : Int) then (if 0 ≤ (wrap64 (x7 + 1)) then (if (bt x0 (wrap64 (x7 + 1))) = 10 then (sleuthref1_Words.l1 k x0 x5 x6 (wrap64 (x7 + 1))) else (sleuthref1_Words.l2 k x0 x5 x6 (wrap64 (x7 + 1)) x8)) else (none)) else (sleuthref1_Words.l1 k x0 x5 x6 (wrap64 (x7 + 1)))) else (sleuthref1_Words.l1 k x0 x5 x6 (wrap64 (x7 + 1)))
end
def sleuthref1_Words.f (k : Nat) (a0 : ByteArray) : Option (List ByteArray × Int) := if (a0.size : Int) > 2048 then (some (([] : List ByteArray), 400)) else (sleuthref1_Words.l0 k a0 0)
theorem sleuthref1_Words.calls (k : Nat) (a0 : ByteArray) (r1 : List ByteArray) (r2 : Int) (w : World) (h : sleuthref1_Words.f k a0 = some (r1, r2)) :
 Calls Tryd.prog 9 #[.string a0] w fun e w' => ∃ v0_ : Value, e = .returned (.tuple #[v0_, .int .i64 r2]) ∧ Kd.R Kd.string 9 w' w.heap.size (fun _ => True) v0_ r1 ∧ Below w.heap.size w w' := by
 have HB := a_ (Below.refl w.heap.size w)
 have H := h; unfold sleuthref1_Words.f at H
 clear h
 by_cases c2 : (a0.size : Int) > 2048
 case pos =>
  rw [if_pos c2] at H
  have c2b0 : decide (2048 < (a0.size : Int)) = true := decide_eq_true c2
  have c2b1 : decide (2048 < a0.size) = true := decide_eq_true (by omega)
  clear c2
  simp only [Option.some.injEq, Prod.mk.injEq] at H
  obtain ⟨rfl, rfl⟩ := H
  go_enter Tryd.func9, Tryd.ntmps9
  go_wp2
  go_ret2
  exact ⟨_, hV_, by first | exact Kd.R_nil _ _ _ _ _ | exact Kd.N_nil _ _ _ _ _ | exact Kd.V_nil _ _ _ _ _ | exact Kd.Q_nil _ _ _ _ _ | exact Kd.S_nil _ _ _ _ _, hC_⟩
 rw [if_neg c2] at H
 have c2b0 : decide (2048 < (a0.size : Int)) = false := decide_eq_false c2
 have c2b1 : decide (2048 < a0.size) = false := decide_eq_false (by omega)
 clear c2
 have H' := a_ H
 clear H
 go_enter Tryd.func9, Tryd.ntmps9
 go_wp2
 go_loopg [4] k (fun kq v4 w' => ∃ (x0 : Int), v4 = .int .i64 x0 ∧ Aside0 (sleuthref1_Words.l0 kq a0 x0 = some (r1, r2)) ∧ Aside0 (kq ≤ k) ∧ Aside0 (Below w.heap.size w w'))
 case atStart => exact ⟨(0), hW_, H', ⟨Nat.le_refl _⟩, ⟨hC_⟩⟩
 case round =>
  clear H'
  try clear c2
  try clear c2b0
  try clear c2b1
  try clear p2
  obtain ⟨x0, rfl, HA, HK1, HB⟩ := hrel
  cases gk with
  | zero => exact absurd HA.out (by simp [sleuthref1_Words.l0])
  | succ k1 =>
   have H := HA.out
   clear HA
   simp only [sleuthref1_Words.l0] at H
   by_cases c3 : x0 < (a0.size : Int)
   case pos =>
    rw [if_pos c3] at H
    have c3b0 : decide (x0 < (a0.size : Int)) = true := decide_eq_true c3
    clear c3
    replace H := ifI_ H; obtain ⟨c4, H⟩ := H
    have c4b0 : decide (0 ≤ x0) = true := decide_eq_true c4
    clear c4
    by_cases c6 : (bt a0 x0) = 10
    case pos =>
     rw [if_pos c6] at H
     have c6b0 : ((bt a0 x0) == 10) = true := beq_iff_eq.mpr c6
     have c6b1 : ((bt a0 x0) != 10) = false := bne_eq_false_iff_eq.mpr c6
     clear c6
     have H' := a_ H
     clear H
     have p5 : 0 ≤ (x0 : Int) := of_decide_eq_true hA_
     have q5 : x0 < (a0.size : Int) := of_decide_eq_true hA_
     have h0 := bt_at a0 x0
     replace p5 := eq_true p5
     replace q5 := eq_true q5
     go_wp2
     go_roundg k1
     case measure => have := HK1.out; omega
     case rel => exact ⟨(wrap64 (x0 + 1)), hW_, H', ⟨by have := HK1.out; omega⟩, ⟨hC_⟩⟩
    rw [if_neg c6] at H
    have c6b0 : ((bt a0 x0) == 10) = false := beq_eq_false_iff_ne.mpr c6
    have c6b1 : ((bt a0 x0) != 10) = true := bne_iff_ne.mpr c6
    by_cases c8 : (bt a0 x0) < 32
    case pos =>
     rw [if_pos c8] at H
     have c8b0 : decide ((bt a0 x0) < 32) = true := decide_eq_true c8
     clear c8
     simp only [Option.some.injEq, Prod.mk.injEq] at H
     obtain ⟨rfl, rfl⟩ := H
     have p5 : 0 ≤ (x0 : Int) := of_decide_eq_true hA_
     have q5 : x0 < (a0.size : Int) := of_decide_eq_true hA_
     have h0 := bt_at a0 x0
     replace p5 := eq_true p5
     replace q5 := eq_true q5
     have p7 : 0 ≤ (x0 : Int) := of_decide_eq_true hA_
     have q7 : x0 < (a0.size : Int) := of_decide_eq_true hA_
     have h1 := bt_at a0 x0
     replace p7 := eq_true p7
     replace q7 := eq_true q7
     go_wp2
     go_ret2
     exact ⟨_, hV_, by first | exact Kd.R_nil _ _ _ _ _ | exact Kd.N_nil _ _ _ _ _ | exact Kd.V_nil _ _ _ _ _ | exact Kd.Q_nil _ _ _ _ _ | exact Kd.S_nil _ _ _ _ _, hC_⟩
    rw [if_neg c8] at H
    have c8b0 : decide ((bt a0 x0) < 32) = false := decide_eq_false c8
    clear c8
    by_cases c10 : (bt a0 x0) > 126
    case neg =>
     rw [if_neg c10] at H
     have c10b0 : decide (126 < (bt a0 x0)) = false := decide_eq_false c10
     clear c10
     have H' := a_ H
     clear H
     have p5 : 0 ≤ (x0 : Int) := of_decide_eq_true hA_
     have q5 : x0 < (a0.size : Int) := of_decide_eq_true hA_
     have h0 := bt_at a0 x0
     replace p5 := eq_true p5
     replace q5 := eq_true q5
     have p7 : 0 ≤ (x0 : Int) := of_decide_eq_true hA_
     have q7 : x0 < (a0.size : Int) := of_decide_eq_true hA_
     have h1 := bt_at a0 x0
     replace p7 := eq_true p7
     replace q7 := eq_true q7
     have p9 : 0 ≤ (x0 : Int) := of_decide_eq_true hA_
     have q9 : x0 < (a0.size : Int) := of_decide_eq_true hA_
     have h2 := bt_at a0 x0
     replace p9 := eq_true p9
     replace q9 := eq_true q9
     go_wp2
     go_roundg k1
     case measure => have := HK1.out; omega
     case rel => exact ⟨(wrap64 (x0 + 1)), hW_, H', ⟨by have := HK1.out; omega⟩, ⟨hC_⟩⟩
    rw [if_pos c10] at H
    have c10b0 : decide (126 < (bt a0 x0)) = true := decide_eq_true c10
    clear c10
    simp only [Option.some.injEq, Prod.mk.injEq] at H
    obtain ⟨rfl, rfl⟩ := H
    have p5 : 0 ≤ (x0 : Int) := of_decide_eq_true hA_
    have q5 : x0 < (a0.size : Int) := of_decide_eq_true hA_
    have h0 := bt_at a0 x0
    replace p5 := eq_true p5
    replace q5 := eq_true q5
    have p7 : 0 ≤ (x0 : Int) := of_decide_eq_true hA_
    have q7 : x0 < (a0.size : Int) := of_decide_eq_true hA_
    have h1 := bt_at a0 x0
    replace p7 := eq_true p7
    replace q7 := eq_true q7
    have p9 : 0 ≤ (x0 : Int) := of_decide_eq_true hA_
    have q9 : x0 < (a0.size : Int) := of_decide_eq_true hA_
    have h2 := bt_at a0 x0
    replace p9 := eq_true p9
    replace q9 := eq_true q9
    go_wp2
    go_ret2
    exact ⟨_, hV_, by first | exact Kd.R_nil _ _ _ _ _ | exact Kd.N_nil _ _ _ _ _ | exact Kd.V_nil _ _ _ _ _ | exact Kd.Q_nil _ _ _ _ _ | exact Kd.S_nil _ _ _ _ _, hC_⟩
   rw [if_neg c3] at H
   have c3b0 : decide (x0 < (a0.size : Int)) = false := decide_eq_false c3
   clear c3
   have H' := a_ H
   clear H
   go_wp2
   go_loopg [5, 6, 7] k1 (fun kq v5 v6 v7 w' => ∃ (x6 : List ByteArray) (x3 : ByteArray) (x1 : Int), v6 = .string x3 ∧ v7 = .int .i64 x1 ∧ Aside0 (sleuthref1_Words.l1 kq a0 x6 x3 x1 = some (r1, r2)) ∧ Aside0 (kq ≤ k1) ∧ Aside0 (Kd.R Kd.string 9 w' w.heap.size (fun _ => True) v5 x6) ∧ Aside0 (Below w.heap.size w w'))
   case atStart => exact ⟨(([] : List ByteArray)), ((⟨#[]⟩ : ByteArray)), (0), hW_, hW_, H', ⟨Nat.le_refl _⟩, ⟨by first | exact Kd.R_nil _ _ _ _ _ | exact Kd.N_nil _ _ _ _ _ | exact Kd.V_nil _ _ _ _ _ | exact Kd.Q_nil _ _ _ _ _ | exact Kd.S_nil _ _ _ _ _⟩, ⟨hC_⟩⟩
   case round =>
    clear H'
    try clear c1
    try clear c2
    try clear c2b0
    try clear c2b1
    try clear p2
    try clear c3
    try clear c3b0
    try clear c4
    try clear c4b0
    try clear p5
    try clear q5
    try clear h0
    try clear c6
    try clear c6b0
    try clear c6b1
    try clear p6
    try clear p7
    try clear q7
    try clear h1
    try clear c8
    try clear c8b0
    try clear c9
    try clear p9
    try clear q9
    try clear h2
    try clear c10
    try clear c10b0
    try clear p2
    try clear p5
    try clear p7
    try clear p9
    try clear q5
    try clear q7
    try clear q9
    obtain ⟨x6, x3, x1, rfl, rfl, HA, HK2, O0, HB⟩ := hrel
    cases gk with
    | zero => exact absurd HA.out (by simp [sleuthref1_Words.l1])
    | succ k2 =>
     have H := HA.out
     clear HA
     simp only [sleuthref1_Words.l1] at H
     by_cases c11 : x1 ≤ (a0.size : Int)
     case neg =>
      rw [if_neg c11] at H
      have c11b0 : decide (x1 ≤ (a0.size : Int)) = false := decide_eq_false c11
      clear c11
      simp only [Option.some.injEq, Prod.mk.injEq] at H
      obtain ⟨rfl, rfl⟩ := H
      go_wp2
      go_ret2
      exact ⟨_, hV_, hR_ O0.out, hC_⟩

     rw [if_pos c11] at H
     have c11b0 : decide (x1 ≤ (a0.size : Int)) = true := decide_eq_true c11
     clear c11
     have HC12 := a_ H
     clear H
     go_upto_if 44 with (fail)
     go_cut [8] (fun v8 wc => ∃ (kq : Nat) (x2 : Int), v8 = .int .u8 x2 ∧ Aside0 (sleuthref1_Words.j2 kq a0 x6 x3 x1 x2 = some (r1, r2)) ∧ Aside0 (kq ≤ k2) ∧ Aside0 (Kd.R Kd.string 9 wc w.heap.size (fun _ => True) u5 x6) ∧ Aside0 (Below w.heap.size w wc))
     case first =>
      have H := HC12.out
      clear HC12
      by_cases c13 : x1 < (a0.size : Int)
      case neg =>
       rw [if_neg c13] at H
       have c13b0 : decide (x1 < (a0.size : Int)) = false := decide_eq_false c13
       clear c13
       (first | rw [c13b0] | (simp only [i64_w, i32_w]; rw [c13b0]) | skip)
       have H' := a_ H
       clear H
       go_wp2
       go_meet
       case rel => exact ⟨_, (10), hW_, H', ⟨by have := HK1.out; have := HK2.out; first | omega | exact Nat.le_refl _⟩, ⟨hR_ O0.out⟩, ⟨hC_⟩⟩
      rw [if_pos c13] at H
      have c13b0 : decide (x1 < (a0.size : Int)) = true := decide_eq_true c13
      clear c13
      (first | rw [c13b0] | (simp only [i64_w, i32_w]; rw [c13b0]) | skip)
      replace H := ifI_ H; obtain ⟨c14, H⟩ := H
      have c14b0 : decide (0 ≤ x1) = true := decide_eq_true c14
      clear c14
      have H' := a_ H
      clear H
      have p15 : 0 ≤ (x1 : Int) := of_decide_eq_true hA_
      have q15 : x1 < (a0.size : Int) := of_decide_eq_true hA_
      have h3 := bt_at a0 x1
      replace p15 := eq_true p15
      replace q15 := eq_true q15
      go_wp2
      go_meet
      case rel => exact ⟨_, (bt a0 x1), hW_, H', ⟨by have := HK1.out; have := HK2.out; first | omega | exact Nat.le_refl _⟩, ⟨hR_ O0.out⟩, ⟨hC_⟩⟩
     case rest =>
      clear HC12
      try clear c1
      try clear p1
      try clear q1
      try clear h4
      try clear c2
      try clear c2b0
      try clear c2b1
      try clear p2
      try clear c3
      try clear c3b0
      try clear c4
      try clear c4b0
      try clear p5
      try clear q5
      try clear h0
      try clear c6
      try clear c6b0
      try clear c6b1
      try clear p6
      try clear p7
      try clear q7
      try clear h1
      try clear c8
      try clear c8b0
      try clear c9
      try clear p9
      try clear q9
      try clear h2
      try clear c10
      try clear c10b0
      try clear c11
      try clear c11b0
      try clear c13
      try clear c13b0
      try clear c14
      try clear c14b0
      try clear p15
      try clear q15
      try clear h3
      try clear p15
      try clear p2
      try clear p5
      try clear p6
      try clear p7
      try clear p9
      try clear q15
      try clear q5
      try clear q7
      try clear q9
      obtain ⟨kq, x2, rfl, HA, HJ11, O0, HB⟩ := hcut
      cases kq with
      | zero => exact absurd HA.out (by simp [sleuthref1_Words.j2])
      | succ kj11 =>
       have H := HA.out
       clear HA
       simp only [sleuthref1_Words.j2] at H
       have HC16 := a_ H
       clear H
       go_upto_region 16 with (fail)
       go_cut [9] (fun v9 wc => ∃ (kq : Nat) (x9 : Bool), v9 = .bool x9 ∧ Aside0 (sleuthref1_Words.j3 kq a0 x6 x3 x1 x2 x9 = some (r1, r2)) ∧ Aside0 (kq ≤ kj11) ∧ Aside0 (Kd.R Kd.string 9 wc w.heap.size (fun _ => True) u5 x6) ∧ Aside0 (Below w.heap.size w wc))
       case first =>
        have H := HC16.out
        clear HC16
        by_cases c17 : x2 = 10
        case pos =>
         rw [if_pos c17] at H
         have c17b0 : (x2 == 10) = true := beq_iff_eq.mpr c17
         have c17b1 : (x2 != 10) = false := bne_eq_false_iff_eq.mpr c17
         clear c17
         (first | rw [c17b0] | (simp only [i64_w, i32_w]; rw [c17b0]) | skip)
         have H' := a_ H
         clear H
         go_wp2
         go_meet
         case rel => exact ⟨_, (false), hW_, H', ⟨by have := HK1.out; have := HK2.out; have := HJ11.out; first | omega | exact Nat.le_refl _⟩, ⟨hR_ O0.out⟩, ⟨hC_⟩⟩
        rw [if_neg c17] at H
        have c17b0 : (x2 == 10) = false := beq_eq_false_iff_ne.mpr c17
        have c17b1 : (x2 != 10) = true := bne_iff_ne.mpr c17
        (first | rw [c17b0] | (simp only [i64_w, i32_w]; rw [c17b0]) | skip)
        by_cases c18 : x2 = 32
        case pos =>
         rw [if_pos c18] at H
         have c18b0 : (x2 == 32) = true := beq_iff_eq.mpr c18
         have c18b1 : (x2 != 32) = false := bne_eq_false_iff_eq.mpr c18
         clear c18
         have H' := a_ H
         clear H
         go_wp2
         go_meet
         case rel => exact ⟨_, (false), hW_, H', ⟨by have := HK1.out; have := HK2.out; have := HJ11.out; first | omega | exact Nat.le_refl _⟩, ⟨hR_ O0.out⟩, ⟨hC_⟩⟩
        rw [if_neg c18] at H
        have c18b0 : (x2 == 32) = false := beq_eq_false_iff_ne.mpr c18
        have c18b1 : (x2 != 32) = true := bne_iff_ne.mpr c18
        by_cases c19 : x2 = 40
        case pos =>
         rw [if_pos c19] at H
         have c19b0 : (x2 == 40) = true := beq_iff_eq.mpr c19
         have c19b1 : (x2 != 40) = false := bne_eq_false_iff_eq.mpr c19
         clear c19
         have H' := a_ H
         clear H
         go_wp2
         go_meet
         case rel => exact ⟨_, (false), hW_, H', ⟨by have := HK1.out; have := HK2.out; have := HJ11.out; first | omega | exact Nat.le_refl _⟩, ⟨hR_ O0.out⟩, ⟨hC_⟩⟩
        rw [if_neg c19] at H
        have c19b0 : (x2 == 40) = false := beq_eq_false_iff_ne.mpr c19
        have c19b1 : (x2 != 40) = true := bne_iff_ne.mpr c19
        by_cases c20 : x2 = 41
        case neg =>
         rw [if_neg c20] at H
         have c20b0 : (x2 == 41) = false := beq_eq_false_iff_ne.mpr c20
         have c20b1 : (x2 != 41) = true := bne_iff_ne.mpr c20
         have H' := a_ H
         clear H
         go_wp2
         go_meet
         case rel => exact ⟨_, ((x2 != 35)), hW_, H', ⟨by have := HK1.out; have := HK2.out; have := HJ11.out; first | omega | exact Nat.le_refl _⟩, ⟨hR_ O0.out⟩, ⟨hC_⟩⟩
        rw [if_pos c20] at H
        have c20b0 : (x2 == 41) = true := beq_iff_eq.mpr c20
        have c20b1 : (x2 != 41) = false := bne_eq_false_iff_eq.mpr c20
        clear c20
        have H' := a_ H
        clear H
        go_wp2
        go_meet
        case rel => exact ⟨_, (false), hW_, H', ⟨by have := HK1.out; have := HK2.out; have := HJ11.out; first | omega | exact Nat.le_refl _⟩, ⟨hR_ O0.out⟩, ⟨hC_⟩⟩
       case rest =>
        clear HC16
        try clear c1
        try clear p1
        try clear q1
        try clear h4
        try clear c2
        try clear c2b0
        try clear c2b1
        try clear p2
        try clear c3
        try clear c3b0
        try clear c4
        try clear c4b0
        try clear p5
        try clear q5
        try clear h0
        try clear c6
        try clear c6b0
        try clear c6b1
        try clear p6
        try clear p7
        try clear q7
        try clear h1
        try clear c8
        try clear c8b0
        try clear c9
        try clear p9
        try clear q9
        try clear h2
        try clear c10
        try clear c10b0
        try clear c11
        try clear c11b0
        try clear c13
        try clear c13b0
        try clear c14
        try clear c14b0
        try clear p15
        try clear q15
        try clear h3
        try clear c17
        try clear c17b0
        try clear c17b1
        try clear c18
        try clear c18b0
        try clear c18b1
        try clear c19
        try clear c19b0
        try clear c19b1
        try clear c20
        try clear c20b0
        try clear c20b1
        try clear p1
        try clear p15
        try clear p2
        try clear p5
        try clear p6
        try clear p7
        try clear p9
        try clear q1
        try clear q15
        try clear q5
        try clear q7
        try clear q9
        obtain ⟨kq, x9, rfl, HA, HJ15, O0, HB⟩ := hcut
        cases kq with
        | zero => exact absurd HA.out (by simp [sleuthref1_Words.j3])
        | succ kj15 =>
         have H := HA.out
         clear HA
         simp only [sleuthref1_Words.j3] at H
         by_cases c21 : x9 = true
         case pos =>
          subst c21
          rw [if_pos rfl] at H
          replace H := ifI_ H; obtain ⟨c22, H⟩ := H
          have c22b0 := eq_true c22
          have c22b1 : decide (0 ≤ x1) = true := decide_eq_true c22
          clear c22
          replace H := ifI_ H; obtain ⟨c23, H⟩ := H
          have c23b0 := eq_true c23
          have c23b1 : decide (x1 ≤ (wrap64 (x1 + 1))) = true := decide_eq_true c23
          replace H := ifI_ H; obtain ⟨c24, H⟩ := H
          have c24b0 := eq_true c24
          have c24b1 : decide ((wrap64 (x1 + 1)) ≤ (a0.size : Int)) = true := decide_eq_true c24
          replace H := ifI_ H; obtain ⟨c25, H⟩ := H
          have c25b0 := eq_true c25
          (try (have c25b0s := c25b0; simp only [ByteArray.size_extract, Nat.min_self] at c25b0s))
          have c25b1 : decide (x3.size + (a0.extract (x1 : Int).toNat ((wrap64 (x1 + 1)) : Int).toNat).size ≤ 9223372036854775807) = true := decide_eq_true c25
          (try (have c25b1s := c25b1; simp only [ByteArray.size_extract, Nat.min_self] at c25b1s))
          try have c25b2 : (9223372036854775807 < x3.size + (a0.extract (x1 : Int).toNat ((wrap64 (x1 + 1)) : Int).toNat).size) = False := eq_false (Nat.not_lt.2 c25)
          try have c25b3 : (9223372036854775807 < x3.size + (a0.extract (x1 : Int).toNat ((wrap64 (x1 + 1)) : Int).toNat).size) = False := eq_false (Nat.not_lt.2 (by have h_ := c25; simp only [ByteArray.size_append, ByteArray.size_extract, Nat.min_self] at h_; omega))
          have H' := a_ H
          clear H
          go_wp2
          go_roundg kj15
          case measure => have := HK1.out; have := HK2.out; have := HJ11.out; have := HJ15.out; omega
          case rel => exact ⟨(x6), (x3 ++ (a0.extract (x1 : Int).toNat ((wrap64 (x1 + 1)) : Int).toNat)), (wrap64 (x1 + 1)), hW_, hW_, H', ⟨by have := HK1.out; have := HK2.out; have := HJ11.out; have := HJ15.out; omega⟩, ⟨hR_ O0.out⟩, ⟨hC_⟩⟩
         replace c21 := Bool.eq_false_iff.mpr c21
         subst c21
         rw [if_neg (show ¬ (false = true) by decide)] at H
         have HC26 := a_ H
         clear H
         go_upto_if 75 with (fail)
         go_cut [5, 6] (fun v5 v6 wc => ∃ (kq : Nat) (x8 : List ByteArray) (x5 : ByteArray), v6 = .string x5 ∧ Aside0 (sleuthref1_Words.j4 kq a0 x8 x5 x1 x2 = some (r1, r2)) ∧ Aside0 (kq ≤ kj15) ∧ Aside0 (Kd.R Kd.string 9 wc w.heap.size (fun _ => True) v5 x8) ∧ Aside0 (Below w.heap.size w wc))
         case first =>
          have H := HC26.out
          clear HC26
          by_cases c27 : x3.toList = ([] : List UInt8)
          case pos =>
           rw [if_pos c27] at H
           have c27b0 : (x3.toList == ([] : List UInt8)) = true := beq_iff_eq.mpr c27
           have c27b1 : (x3.toList != ([] : List UInt8)) = false := bne_eq_false_iff_eq.mpr c27
           have c27b2 : x3.toList.isEmpty = true := List.isEmpty_iff.mpr c27
           clear c27
           (first | rw [c27b0] | rw [c27b2] | rw [c27b2] | (simp only [i64_w, i32_w]; rw [c27b0]) | skip)
           have H' := a_ H
           clear H
           go_wp2
           go_meet
           case rel => exact ⟨_, (x6), (x3), hW_, H', ⟨by have := HK1.out; have := HK2.out; have := HJ11.out; have := HJ15.out; first | omega | exact Nat.le_refl _⟩, ⟨hR_ O0.out⟩, ⟨hC_⟩⟩
          rw [if_neg c27] at H
          have c27b0 : (x3.toList == ([] : List UInt8)) = false := beq_eq_false_iff_ne.mpr c27
          have c27b1 : (x3.toList != ([] : List UInt8)) = true := bne_iff_ne.mpr c27
          have c27b2 : x3.toList.isEmpty = false := (by rw [Bool.eq_false_iff]; exact fun h_ => c27 (List.isEmpty_iff.mp h_))
          (first | rw [c27b0] | rw [c27b2] | rw [c27b2] | (simp only [i64_w, i32_w]; rw [c27b0]) | skip)
          replace H := ifI_ H; obtain ⟨c28, H⟩ := H
          have LMc28 := a_ c28
          clear c28
          obtain ⟨y0, i0⟩ : ∃ y_ : List ByteArray, y_ = (x6 ++ [x3]) := ⟨_, rfl⟩
          replace H : (sleuthref1_Words.j4 kj15 a0 y0 (⟨#[]⟩ : ByteArray) x1 x2) = some (r1, r2) := by first | (rw [i0]; with_reducible exact H) | (have H2_ := (Option.bind_some _ _).symm.trans H; rw [i0]; with_reducible exact H2_) | (have H2_ := (Option.bind_some _ _).symm.trans H; with_reducible exact H2_) | with_reducible exact H | (rw [i0]; exact H) | exact H
          have Y0 := a_ i0
          clear i0
          have H' := a_ H
          clear H
          go_wp2_with (first | ((with_reducible refine gate_builtin (b := .append) (xs := #[.tmp 76, .tmp 78]) rfl ?_); (try (refine gate_guard (by rfl) ?_; dsimp only)); at_builtin; refine Kd.R_append Kd.string (w0 := w) w.heap.size rfl (.tmp 76) (.tmp 78) 22 9 (.string ⟨#[]⟩) 16 rfl Tryd.underlying22 info9 rfl (by decide) (by omega) u5 x6 x3 [.string x3] (fun _ => True) (fun _ => False) rfl rfl ?aP (fun _ hk => hk.elim) ?aF ?aO ?aB ?aS ?aL ?_; (case aP => exact rfl); (case aB => exact hB_); (case aF => exact (fun _ _ => trivial)); (case aO => exact (hR_ O0.out)); (case aS => exact hS_); (case aL => have := LMc28.out; omega); intro v1 w1 ho hb hg hat; rw [← Y0.out] at ho; replace HB := a_ (hb); have P0 := a_ (ho); clear O0; clear ho hb hg hat))
          go_meet
          case rel => exact ⟨_, (y0), ((⟨#[]⟩ : ByteArray)), hW_, H', ⟨by have := HK1.out; have := HK2.out; have := HJ11.out; have := HJ15.out; first | omega | exact Nat.le_refl _⟩, ⟨hR_ P0.out⟩, ⟨hC_⟩⟩
         case rest =>
          clear HC26
          try clear c1
          try clear p1
          try clear q1
          try clear h4
          try clear c2
          try clear c2b0
          try clear c2b1
          try clear p2
          try clear c3
          try clear c3b0
          try clear c4
          try clear c4b0
          try clear p5
          try clear q5
          try clear h0
          try clear c6
          try clear c6b0
          try clear c6b1
          try clear p6
          try clear p7
          try clear q7
          try clear h1
          try clear c8
          try clear c8b0
          try clear c9
          try clear p9
          try clear q9
          try clear h2
          try clear c10
          try clear c10b0
          try clear c11
          try clear c11b0
          try clear c13
          try clear c13b0
          try clear c14
          try clear c14b0
          try clear p15
          try clear q15
          try clear h3
          try clear c17
          try clear c17b0
          try clear c17b1
          try clear c18
          try clear c18b0
          try clear c18b1
          try clear c19
          try clear c19b0
          try clear c19b1
          try clear c20
          try clear c20b0
          try clear c20b1
          try clear c21
          try clear c22
          try clear c22b0
          try clear c22b1
          try clear c23
          try clear c23b0
          try clear c23b1
          try clear c24
          try clear c24b0
          try clear c24b1
          try clear c25
          try clear c25b0
          try clear c25b1
          try clear c25b2
          try clear c27
          try clear c27b0
          try clear c27b1
          try clear c28
          try clear p1
          try clear p15
          try clear p2
          try clear p5
          try clear p6
          try clear p7
          try clear p9
          try clear q1
          try clear q15
          try clear q5
          try clear q7
          try clear q9
          obtain ⟨kq, x8, x5, rfl, HA, HJ25, O0, HB⟩ := hcut
          cases kq with
          | zero => exact absurd HA.out (by simp [sleuthref1_Words.j4])
          | succ kj25 =>
           have H := HA.out
           clear HA
           simp only [sleuthref1_Words.j4] at H
           have HC30 := a_ H
           clear H
           go_upto_region 22 with (fail)
           go_cut [85] (fun v0 wc => ∃ (kq : Nat) (x10 : Bool), v0 = .bool x10 ∧ Aside0 (sleuthref1_Words.j5 kq a0 x8 x5 x1 x2 x10 = some (r1, r2)) ∧ Aside0 (kq ≤ kj25) ∧ Aside0 (Kd.R Kd.string 9 wc w.heap.size (fun _ => True) u5 x8) ∧ Aside0 (Below w.heap.size w wc))
           case first =>
            have H := HC30.out
            clear HC30
            by_cases c31 : x2 = 40
            case neg =>
             rw [if_neg c31] at H
             have c31b0 : (x2 == 40) = false := beq_eq_false_iff_ne.mpr c31
             have c31b1 : (x2 != 40) = true := bne_iff_ne.mpr c31
             (first | rw [c31b0] | (simp only [i64_w, i32_w]; rw [c31b0]) | skip)
             have H' := a_ H
             clear H
             go_wp2
             go_meet
             case rel => exact ⟨_, ((x2 == 41)), hW_, H', ⟨by have := HK1.out; have := HK2.out; have := HJ11.out; have := HJ15.out; have := HJ25.out; first | omega | exact Nat.le_refl _⟩, ⟨hR_ O0.out⟩, ⟨hC_⟩⟩
            rw [if_pos c31] at H
            have c31b0 : (x2 == 40) = true := beq_iff_eq.mpr c31
            have c31b1 : (x2 != 40) = false := bne_eq_false_iff_eq.mpr c31
            clear c31
            (first | rw [c31b0] | (simp only [i64_w, i32_w]; rw [c31b0]) | skip)
            have H' := a_ H
            clear H
            go_wp2
            go_meet
            case rel => exact ⟨_, (true), hW_, H', ⟨by have := HK1.out; have := HK2.out; have := HJ11.out; have := HJ15.out; have := HJ25.out; first | omega | exact Nat.le_refl _⟩, ⟨hR_ O0.out⟩, ⟨hC_⟩⟩
           case rest =>
            clear HC30
            try clear c1
            try clear p1
            try clear q1
            try clear h4
            try clear c2
            try clear c2b0
            try clear c2b1
            try clear p2
            try clear c3
            try clear c3b0
            try clear c4
            try clear c4b0
            try clear p5
            try clear q5
            try clear h0
            try clear c6
            try clear c6b0
            try clear c6b1
            try clear p6
            try clear p7
            try clear q7
            try clear h1
            try clear c8
            try clear c8b0
            try clear c9
            try clear p9
            try clear q9
            try clear h2
            try clear c10
            try clear c10b0
            try clear c11
            try clear c11b0
            try clear c13
            try clear c13b0
            try clear c14
            try clear c14b0
            try clear p15
            try clear q15
            try clear h3
            try clear c17
            try clear c17b0
            try clear c17b1
            try clear c18
            try clear c18b0
            try clear c18b1
            try clear c19
            try clear c19b0
            try clear c19b1
            try clear c20
            try clear c20b0
            try clear c20b1
            try clear c21
            try clear c22
            try clear c22b0
            try clear c22b1
            try clear c23
            try clear c23b0
            try clear c23b1
            try clear c24
            try clear c24b0
            try clear c24b1
            try clear c25
            try clear c25b0
            try clear c25b1
            try clear c25b2
            try clear c27
            try clear c27b0
            try clear c27b1
            try clear c28
            try clear c31
            try clear c31b0
            try clear c31b1
            try clear p1
            try clear p15
            try clear p2
            try clear p5
            try clear p6
            try clear p7
            try clear p9
            try clear q1
            try clear q15
            try clear q5
            try clear q7
            try clear q9
            obtain ⟨kq, x10, rfl, HA, HJ29, O0, HB⟩ := hcut
            cases kq with
            | zero => exact absurd HA.out (by simp [sleuthref1_Words.j5])
            | succ kj29 =>
             have H := HA.out
             clear HA
             simp only [sleuthref1_Words.j5] at H
             have HC32 := a_ H
             clear H
             go_upto_if 85 with (fail)
             go_cut [5] (fun v5 wc => ∃ (kq : Nat) (x7 : List ByteArray), Aside0 (sleuthref1_Words.j6 kq a0 x7 x5 x1 x2 = some (r1, r2)) ∧ Aside0 (kq ≤ kj29) ∧ Aside0 (Kd.R Kd.string 9 wc w.heap.size (fun _ => True) v5 x7) ∧ Aside0 (Below w.heap.size w wc))
             case first =>
              have H := HC32.out
              clear HC32
              by_cases c33 : x10 = true
              case neg =>
               replace c33 := Bool.eq_false_iff.mpr c33
               subst c33
               rw [if_neg (show ¬ (false = true) by decide)] at H
               have H' := a_ H
               clear H
               go_wp2
               go_meet
               case rel => exact ⟨_, (x8), H', ⟨by have := HK1.out; have := HK2.out; have := HJ11.out; have := HJ15.out; have := HJ25.out; have := HJ29.out; first | omega | exact Nat.le_refl _⟩, ⟨hR_ O0.out⟩, ⟨hC_⟩⟩
              subst c33
              rw [if_pos rfl] at H
              replace H := ifI_ H; obtain ⟨c34, H⟩ := H
              have c34b0 := eq_true c34
              have c34b1 : decide (0 ≤ x1) = true := decide_eq_true c34
              clear c34
              replace H := ifI_ H; obtain ⟨c35, H⟩ := H
              have c35b0 := eq_true c35
              have c35b1 : decide (x1 ≤ (wrap64 (x1 + 1))) = true := decide_eq_true c35
              replace H := ifI_ H; obtain ⟨c36, H⟩ := H
              have c36b0 := eq_true c36
              have c36b1 : decide ((wrap64 (x1 + 1)) ≤ (a0.size : Int)) = true := decide_eq_true c36
              replace H := ifI_ H; obtain ⟨c37, H⟩ := H
              have LMc37 := a_ c37
              clear c37
              obtain ⟨y1, i1⟩ : ∃ y_ : List ByteArray, y_ = (x8 ++ [a0.extract (x1 : Int).toNat ((wrap64 (x1 + 1)) : Int).toNat]) := ⟨_, rfl⟩
              replace H : (sleuthref1_Words.j6 kj29 a0 y1 x5 x1 x2) = some (r1, r2) := by first | (rw [i1]; with_reducible exact H) | (have H2_ := (Option.bind_some _ _).symm.trans H; rw [i1]; with_reducible exact H2_) | (have H2_ := (Option.bind_some _ _).symm.trans H; with_reducible exact H2_) | with_reducible exact H | (rw [i1]; exact H) | exact H
              have Y1 := a_ i1
              clear i1
              have H' := a_ H
              clear H
              go_wp2_with (first | ((with_reducible refine gate_builtin (b := .append) (xs := #[.tmp 86, .tmp 92]) rfl ?_); (try (refine gate_guard (by rfl) ?_; dsimp only)); at_builtin; refine Kd.R_append Kd.string (w0 := w) w.heap.size rfl (.tmp 86) (.tmp 92) 22 9 (.string ⟨#[]⟩) 16 rfl Tryd.underlying22 info9 rfl (by decide) (by omega) u5 x8 (a0.extract (x1 : Int).toNat ((wrap64 (x1 + 1)) : Int).toNat) [.string (a0.extract (x1 : Int).toNat ((wrap64 (x1 + 1)) : Int).toNat)] (fun _ => True) (fun _ => False) rfl rfl ?aP (fun _ hk => hk.elim) ?aF ?aO ?aB ?aS ?aL ?_; (case aP => exact rfl); (case aB => exact hB_); (case aF => exact (fun _ _ => trivial)); (case aO => exact (hR_ O0.out)); (case aS => exact hS_); (case aL => have := LMc37.out; omega); intro v2 w2 ho hb hg hat; rw [← Y1.out] at ho; replace HB := a_ (hb); have P1 := a_ (ho); clear O0; clear ho hb hg hat))
              go_meet
              case rel => exact ⟨_, (y1), H', ⟨by have := HK1.out; have := HK2.out; have := HJ11.out; have := HJ15.out; have := HJ25.out; have := HJ29.out; first | omega | exact Nat.le_refl _⟩, ⟨hR_ P1.out⟩, ⟨hC_⟩⟩
             case rest =>
              clear HC32
              try clear c1
              try clear p1
              try clear q1
              try clear h4
              try clear c2
              try clear c2b0
              try clear c2b1
              try clear p2
              try clear c3
              try clear c3b0
              try clear c4
              try clear c4b0
              try clear p5
              try clear q5
              try clear h0
              try clear c6
              try clear c6b0
              try clear c6b1
              try clear p6
              try clear p7
              try clear q7
              try clear h1
              try clear c8
              try clear c8b0
              try clear c9
              try clear p9
              try clear q9
              try clear h2
              try clear c10
              try clear c10b0
              try clear c11
              try clear c11b0
              try clear c13
              try clear c13b0
              try clear c14
              try clear c14b0
              try clear p15
              try clear q15
              try clear h3
              try clear c17
              try clear c17b0
              try clear c17b1
              try clear c18
              try clear c18b0
              try clear c18b1
              try clear c19
              try clear c19b0
              try clear c19b1
              try clear c20
              try clear c20b0
              try clear c20b1
              try clear c21
              try clear c22
              try clear c22b0
              try clear c22b1
              try clear c23
              try clear c23b0
              try clear c23b1
              try clear c24
              try clear c24b0
              try clear c24b1
              try clear c25
              try clear c25b0
              try clear c25b1
              try clear c25b2
              try clear c27
              try clear c27b0
              try clear c27b1
              try clear c28
              try clear c31
              try clear c31b0
              try clear c31b1
              try clear c33
              try clear c34
              try clear c34b0
              try clear c34b1
              try clear c35
              try clear c35b0
              try clear c35b1
              try clear c36
              try clear c36b0
              try clear c36b1
              try clear c37
              try clear p1
              try clear p15
              try clear p2
              try clear p5
              try clear p6
              try clear p7
              try clear p9
              try clear q1
              try clear q15
              try clear q5
              try clear q7
              try clear q9
              obtain ⟨kq, x7, HA, HJ31, O0, HB⟩ := hcut
              cases kq with
              | zero => exact absurd HA.out (by simp [sleuthref1_Words.j6])
              | succ kj31 =>
               have H := HA.out
               clear HA
               simp only [sleuthref1_Words.j6] at H
               have H' := a_ H
               clear H
               go_wp2
               go_loopg [7] kj31 (fun kq v7 w' => ∃ (x4 : Int), v7 = .int .i64 x4 ∧ Aside0 (sleuthref1_Words.l2 kq a0 x7 x5 x4 x2 = some (r1, r2)) ∧ Aside0 (kq ≤ kj31) ∧ Aside0 (Kd.R Kd.string 9 w' w.heap.size (fun _ => True) u5 x7) ∧ Aside0 (Below w.heap.size w w'))
               case atStart => exact ⟨(x1), hW_, H', ⟨Nat.le_refl _⟩, ⟨hR_ O0.out⟩, ⟨hC_⟩⟩
               case round =>
                clear H'
                try clear c1
                try clear p1
                try clear q1
                try clear h4
                try clear c2
                try clear c2b0
                try clear c2b1
                try clear p2
                try clear c3
                try clear c3b0
                try clear c4
                try clear c4b0
                try clear p5
                try clear q5
                try clear h0
                try clear c6
                try clear c6b0
                try clear c6b1
                try clear p6
                try clear p7
                try clear q7
                try clear h1
                try clear c8
                try clear c8b0
                try clear c9
                try clear p9
                try clear q9
                try clear h2
                try clear c10
                try clear c10b0
                try clear c11
                try clear c11b0
                try clear c13
                try clear c13b0
                try clear c14
                try clear c14b0
                try clear p15
                try clear q15
                try clear h3
                try clear c17
                try clear c17b0
                try clear c17b1
                try clear c18
                try clear c18b0
                try clear c18b1
                try clear c19
                try clear c19b0
                try clear c19b1
                try clear c20
                try clear c20b0
                try clear c20b1
                try clear c21
                try clear c22
                try clear c22b0
                try clear c22b1
                try clear c23
                try clear c23b0
                try clear c23b1
                try clear c24
                try clear c24b0
                try clear c24b1
                try clear c25
                try clear c25b0
                try clear c25b1
                try clear c25b2
                try clear c27
                try clear c27b0
                try clear c27b1
                try clear c28
                try clear c31
                try clear c31b0
                try clear c31b1
                try clear c33
                try clear c34
                try clear c34b0
                try clear c34b1
                try clear c35
                try clear c35b0
                try clear c35b1
                try clear c36
                try clear c36b0
                try clear c36b1
                try clear c37
                try clear p1
                try clear p15
                try clear p2
                try clear p5
                try clear p6
                try clear p7
                try clear p9
                try clear q1
                try clear q15
                try clear q5
                try clear q7
                try clear q9
                obtain ⟨x4, rfl, HA, HK8, O0, HB⟩ := hrel
                cases gk with
                | zero => exact absurd HA.out (by simp [sleuthref1_Words.l2])
                | succ k8 =>
                 have H := HA.out
                 clear HA
                 simp only [sleuthref1_Words.l2] at H
                 by_cases c39 : x2 = 35
                 case neg =>
                  rw [if_neg c39] at H
                  have c39b0 : (x2 == 35) = false := beq_eq_false_iff_ne.mpr c39
                  have c39b1 : (x2 != 35) = true := bne_iff_ne.mpr c39
                  have H' := a_ H
                  clear H
                  go_wp2
                  go_roundg k8
                  case measure => have := HK1.out; have := HK2.out; have := HJ11.out; have := HJ15.out; have := HJ25.out; have := HJ29.out; have := HJ31.out; have := HK8.out; omega
                  case rel => exact ⟨(x7), (x5), (wrap64 (x4 + 1)), hW_, hW_, H', ⟨by have := HK1.out; have := HK2.out; have := HJ11.out; have := HJ15.out; have := HJ25.out; have := HJ29.out; have := HJ31.out; have := HK8.out; omega⟩, ⟨hR_ O0.out⟩, ⟨hC_⟩⟩
                 rw [if_pos c39] at H
                 have c39b0 : (x2 == 35) = true := beq_iff_eq.mpr c39
                 have c39b1 : (x2 != 35) = false := bne_eq_false_iff_eq.mpr c39
                 clear c39
                 by_cases c40 : (wrap64 (x4 + 1)) < (a0.size : Int)
                 case neg =>
                  rw [if_neg c40] at H
                  have c40b0 : decide ((wrap64 (x4 + 1)) < (a0.size : Int)) = false := decide_eq_false c40
                  (try (have c40b0w := c40b0; (rw [show wrap64 (x4 + 1) = (x4 + 1) from by unfold wrap64; omega] at c40b0w)))
                  clear c40
                  have H' := a_ H
                  clear H
                  go_wp2
                  go_roundg k8
                  case measure => have := HK1.out; have := HK2.out; have := HJ11.out; have := HJ15.out; have := HJ25.out; have := HJ29.out; have := HJ31.out; have := HK8.out; omega
                  case rel => exact ⟨(x7), (x5), (wrap64 (x4 + 1)), hW_, hW_, H', ⟨by have := HK1.out; have := HK2.out; have := HJ11.out; have := HJ15.out; have := HJ25.out; have := HJ29.out; have := HJ31.out; have := HK8.out; omega⟩, ⟨hR_ O0.out⟩, ⟨hC_⟩⟩
                 rw [if_pos c40] at H
                 have c40b0 : decide ((wrap64 (x4 + 1)) < (a0.size : Int)) = true := decide_eq_true c40
                 (try (have c40b0w := c40b0; (rw [show wrap64 (x4 + 1) = (x4 + 1) from by unfold wrap64; omega] at c40b0w)))
                 clear c40
                 obtain ⟨ji41, hji41⟩ : ∃ j_ : Int, (wrap64 (x4 + 1)) = j_ := ⟨_, rfl⟩
                 replace H : (if 0 ≤ (ji41) then (if (bt a0 (ji41)) = 10 then (sleuthref1_Words.l1 k8 a0 x7 x5 ji41) else (sleuthref1_Words.l2 k8 a0 x7 x5 ji41 x2)) else (none)) = some (r1, r2) := by first | (rw [hji41] at H; exact H) | (simp only [hji41] at H ⊢; exact H)
                 (try rw [hji41] at c40b0)
                 have hji41w : (IntKind.i64.wrap (x4 + 1)) = ji41 := (i64_w _).trans hji41
                 replace H := ifI_ H; obtain ⟨c42, H⟩ := H
                 have c42b0 : decide (0 ≤ (ji41)) = true := decide_eq_true c42
                 clear c42
                 by_cases c44 : (bt a0 (ji41)) = 10
                 case neg =>
                  rw [if_neg c44] at H
                  have c44b0 : ((bt a0 (ji41)) == 10) = false := beq_eq_false_iff_ne.mpr c44
                  have c44b1 : ((bt a0 (ji41)) != 10) = true := bne_iff_ne.mpr c44
                  have H' := a_ H
                  clear H
                  have p43 : 0 ≤ ((ji41) : Int) := of_decide_eq_true hA_
                  have q43 : (ji41) < (a0.size : Int) := of_decide_eq_true hA_
                  have h5 := bt_at a0 (ji41)
                  replace p43 := eq_true p43
                  replace q43 := eq_true q43
                  go_wp2
                  go_roundg k8
                  case measure => have := HK1.out; have := HK2.out; have := HJ11.out; have := HJ15.out; have := HJ25.out; have := HJ29.out; have := HJ31.out; have := HK8.out; omega
                  case rel => exact ⟨(ji41), (by first | rfl | (simp; done) | (simp only [← hji41] <;> (first | rfl | simp)) | (simp [*]; done)), H', ⟨by have := HK1.out; have := HK2.out; have := HJ11.out; have := HJ15.out; have := HJ25.out; have := HJ29.out; have := HJ31.out; have := HK8.out; omega⟩, ⟨hR_ O0.out⟩, ⟨hC_⟩⟩
                 rw [if_pos c44] at H
                 have c44b0 : ((bt a0 (ji41)) == 10) = true := beq_iff_eq.mpr c44
                 have c44b1 : ((bt a0 (ji41)) != 10) = false := bne_eq_false_iff_eq.mpr c44
                 clear c44
                 have H' := a_ H
                 clear H
                 have p43 : 0 ≤ ((ji41) : Int) := of_decide_eq_true hA_
                 have q43 : (ji41) < (a0.size : Int) := of_decide_eq_true hA_
                 have h5 := bt_at a0 (ji41)
                 replace p43 := eq_true p43
                 replace q43 := eq_true q43
                 go_wp2
                 go_roundg k8
                 case measure => have := HK1.out; have := HK2.out; have := HJ11.out; have := HJ15.out; have := HJ25.out; have := HJ29.out; have := HJ31.out; have := HK8.out; omega
                 case rel => exact ⟨(x7), (x5), (ji41), hW_, (by first | rfl | (simp; done) | (simp only [← hji41] <;> (first | rfl | simp)) | (simp [*]; done)), H', ⟨by have := HK1.out; have := HK2.out; have := HJ11.out; have := HJ15.out; have := HJ25.out; have := HJ29.out; have := HJ31.out; have := HK8.out; omega⟩, ⟨hR_ O0.out⟩, ⟨hC_⟩⟩
end Go.Proofs.YtljlmkbcichlpaaDoor.G
