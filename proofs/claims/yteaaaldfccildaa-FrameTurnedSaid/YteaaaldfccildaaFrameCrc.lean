import Derived.Test.YteaaaldfccildaaFrameFormsL
namespace Go.Proofs.Yteaaaldfccildaa.FrameLib
open Go.RowKit Go.Proofs.Yteaaaldfccildaa.G Go.Proofs.YteaaaldfccildaaW.PrintWords Go.Proofs.YteaaaldfccildaaW.PrintLast Go.Proofs.YteaaaldfccildaaW.PrintMore
set_option linter.unusedVariables false
set_option linter.unusedSimpArgs false

/-! the sum as a linear map of 32 bits -/
def stepB (x : BitVec 32) : BitVec 32 := if x.getLsbD 0 = true then (x >>> 1) ^^^ 3988292384#32 else x >>> 1
def stepsB : Nat → BitVec 32 → BitVec 32
  | 0, x => x
  | n + 1, x => stepsB n (stepB x)
def foldB (x : BitVec 32) (l : List (BitVec 32)) : BitVec 32 := l.foldl (fun y c => stepsB 8 (y ^^^ c)) x

theorem xor_swap (a b p : BitVec 32) : (a ^^^ p) ^^^ (b ^^^ p) = a ^^^ b := by
  rw [BitVec.xor_assoc, BitVec.xor_comm b p, ← BitVec.xor_assoc p p b, BitVec.xor_self, BitVec.zero_xor]
theorem stepB_xor (a b : BitVec 32) : stepB (a ^^^ b) = stepB a ^^^ stepB b := by
  unfold stepB
  rw [BitVec.getLsbD_xor, BitVec.ushiftRight_xor_distrib]
  cases ha : a.getLsbD 0 <;> cases hb : b.getLsbD 0
  · simp
  · simp [BitVec.xor_assoc]
  · simp
    rw [BitVec.xor_assoc, BitVec.xor_assoc, BitVec.xor_comm _ (b >>> 1)]
  · simp
    rw [xor_swap]
theorem stepsB_xor (n : Nat) : ∀ a b, stepsB n (a ^^^ b) = stepsB n a ^^^ stepsB n b := by
  induction n with
  | zero => intro a b; rfl
  | succ n ih => intro a b; simp only [stepsB, stepB_xor, ih]
theorem stepsB_add (m n : Nat) : ∀ x, stepsB (m + n) x = stepsB n (stepsB m x) := by
  induction m with
  | zero => intro x; simp [stepsB]
  | succ m ih => intro x; rw [Nat.succ_add]; simp only [stepsB, ih]
theorem stepB_zero {x : BitVec 32} (h : stepB x = 0#32) : x = 0#32 := by
  unfold stepB at h
  have h31 := congrArg (fun y => y.getLsbD 31) h
  cases h0 : x.getLsbD 0
  · rw [if_neg (by rw [h0]; simp)] at h
    apply BitVec.eq_of_getLsbD_eq
    intro i hi
    cases i with
    | zero => rw [h0]; rfl
    | succ i =>
      have := congrArg (fun y => y.getLsbD i) h
      simp only [BitVec.getLsbD_ushiftRight] at this
      rw [Nat.add_comm i 1, this]
      simp
  · rw [if_pos h0] at h31
    simp at h31
theorem stepsB_zero (n : Nat) : ∀ {x}, stepsB n x = 0#32 → x = 0#32 := by
  induction n with
  | zero => intro x h; exact h
  | succ n ih => intro x h; exact stepB_zero (ih h)
theorem stepsB_of_zero (n : Nat) : stepsB n 0#32 = 0#32 := by
  induction n with
  | zero => rfl
  | succ n ih => simp only [stepsB]; rw [show stepB 0#32 = 0#32 from by decide]; exact ih
theorem stepB_shl (y : BitVec 32) (h : y.toNat < 2 ^ 31) : stepB (y <<< 1) = y := by
  unfold stepB
  rw [if_neg (by simp)]
  apply BitVec.eq_of_toNat_eq
  rw [BitVec.toNat_ushiftRight, BitVec.toNat_shiftLeft, Nat.shiftLeft_eq, Nat.shiftRight_eq_div_pow, Nat.mod_eq_of_lt (by omega)]
  omega
theorem stepsB_shl (n : Nat) : ∀ (y : BitVec 32), y.toNat * 2 ^ n < 2 ^ 32 → stepsB n (y <<< n) = y := by
  induction n with
  | zero => intro y h; simp [stepsB]
  | succ n ih =>
    intro y h
    have h1 : y.toNat * 2 ^ n < 2 ^ 31 := by rw [Nat.pow_succ, ← Nat.mul_assoc] at h; omega
    have e : y <<< (n + 1) = (y <<< n) <<< 1 := by rw [BitVec.shiftLeft_add]
    simp only [stepsB]
    rw [e, stepB_shl, ih y (by omega)]
    rw [BitVec.toNat_shiftLeft, Nat.shiftLeft_eq, Nat.mod_eq_of_lt (by omega)]
    exact h1
theorem foldB_xor (l : List (BitVec 32)) : ∀ (m : List (BitVec 32)) (x e : BitVec 32), l.length = m.length → foldB (x ^^^ e) (List.zipWith (· ^^^ ·) l m) = foldB x l ^^^ foldB e m := by
  induction l with
  | nil =>
    intro m x e h
    cases m with
    | nil => rfl
    | cons c m => simp at h
  | cons c l ih =>
    intro m x e h
    cases m with
    | nil => simp at h
    | cons d m =>
      simp only [List.length_cons, Nat.add_right_cancel_iff] at h
      show foldB (stepsB 8 ((x ^^^ e) ^^^ (c ^^^ d))) (List.zipWith (· ^^^ ·) l m) = foldB (stepsB 8 (x ^^^ c)) l ^^^ foldB (stepsB 8 (e ^^^ d)) m
      rw [← ih m _ _ h, ← stepsB_xor]
      congr 2
      rw [BitVec.xor_assoc, BitVec.xor_assoc, ← BitVec.xor_assoc e c d, BitVec.xor_comm e c, BitVec.xor_assoc c e d]
theorem foldB_append (l m : List (BitVec 32)) (x : BitVec 32) : foldB x (l ++ m) = foldB (foldB x l) m := by
  unfold foldB; rw [List.foldl_append]
theorem foldB_zeros (n : Nat) : foldB 0#32 (List.replicate n 0#32) = 0#32 := by
  induction n with
  | zero => rfl
  | succ n ih =>
    rw [List.replicate_succ]
    show foldB (stepsB 8 (0#32 ^^^ 0#32)) (List.replicate n 0#32) = 0#32
    rw [BitVec.xor_self, stepsB_of_zero]
    exact ih
theorem foldB_zeros_inj (n : Nat) : ∀ {x}, foldB x (List.replicate n 0#32) = 0#32 → x = 0#32 := by
  induction n with
  | zero => intro x h; exact h
  | succ n ih =>
    intro x h
    rw [List.replicate_succ] at h
    have h' : foldB (stepsB 8 (x ^^^ 0#32)) (List.replicate n 0#32) = 0#32 := h
    have := stepsB_zero 8 (ih h')
    simpa using this
/-- the four bytes of a number, the lowest first -/
def byteB (v : BitVec 32) (i : Nat) : BitVec 32 := (v >>> (8 * i)) &&& 255#32
def bytesB (v : BitVec 32) : List (BitVec 32) := [byteB v 0, byteB v 1, byteB v 2, byteB v 3]
theorem byteB_lt (v : BitVec 32) (i : Nat) : (byteB v i).toNat < 256 := by
  unfold byteB
  rw [BitVec.toNat_and]
  exact Nat.lt_of_le_of_lt Nat.and_le_right (by decide)
theorem ff_bit (j : Nat) : (255#32).getLsbD j = decide (j < 8) := by
  by_cases h : j < 32
  · have : ∀ j : Fin 32, (255#32).getLsbD j.1 = decide (j.1 < 8) := by decide
    exact this ⟨j, h⟩
  · rw [BitVec.getLsbD_of_ge _ _ (by omega)]
    rw [decide_eq_false (by omega)]
theorem byteB_shl_bit (v : BitVec 32) (i j : Nat) (hj : j < 32) : (byteB v i <<< (8 * i)).getLsbD j = (decide (8 * i ≤ j ∧ j < 8 * i + 8) && v.getLsbD j) := by
  unfold byteB
  rw [BitVec.getLsbD_shiftLeft, BitVec.getLsbD_and, BitVec.getLsbD_ushiftRight, ff_bit]
  by_cases c : 8 * i ≤ j
  · rw [show 8 * i + (j - 8 * i) = j from by omega]
    by_cases c2 : j < 8 * i + 8
    · rw [decide_eq_true hj, decide_eq_false (show ¬ j < 8 * i from by omega), decide_eq_true (show j - 8 * i < 8 from by omega), decide_eq_true (show 8 * i ≤ j ∧ j < 8 * i + 8 from ⟨c, c2⟩)]
      simp
    · rw [decide_eq_false (show ¬ j - 8 * i < 8 from by omega), decide_eq_false (show ¬ (8 * i ≤ j ∧ j < 8 * i + 8) from by omega)]
      simp
  · rw [decide_eq_true (show j < 8 * i from by omega), decide_eq_false (show ¬ (8 * i ≤ j ∧ j < 8 * i + 8) from by omega)]
    simp
theorem join_bytes (v : BitVec 32) : ((byteB v 0 ^^^ (byteB v 1 <<< 8)) ^^^ (byteB v 2 <<< 16)) ^^^ (byteB v 3 <<< 24) = v := by
  apply BitVec.eq_of_getLsbD_eq
  intro j hj
  have h0 := byteB_shl_bit v 0 j hj
  have h1 := byteB_shl_bit v 1 j hj
  have h2 := byteB_shl_bit v 2 j hj
  have h3 := byteB_shl_bit v 3 j hj
  simp only [Nat.mul_zero, BitVec.shiftLeft_zero, Nat.mul_one, Nat.reduceMul] at h0 h1 h2 h3
  rw [BitVec.getLsbD_xor, BitVec.getLsbD_xor, BitVec.getLsbD_xor, h0, h1, h2, h3]
  rcases (by omega : j < 8 ∨ (8 ≤ j ∧ j < 16) ∨ (16 ≤ j ∧ j < 24) ∨ (24 ≤ j ∧ j < 32)) with c | c | c | c
  · rw [decide_eq_true (by omega), decide_eq_false (by omega), decide_eq_false (by omega), decide_eq_false (by omega)]; simp
  · rw [decide_eq_false (by omega), decide_eq_true (by omega), decide_eq_false (by omega), decide_eq_false (by omega)]; simp
  · rw [decide_eq_false (by omega), decide_eq_false (by omega), decide_eq_true (by omega), decide_eq_false (by omega)]; simp
  · rw [decide_eq_false (by omega), decide_eq_false (by omega), decide_eq_false (by omega), decide_eq_true (by omega)]; simp
theorem push_byte (n : Nat) (hn : n ≤ 24) (x b : BitVec 32) (hb : b.toNat < 256) : stepsB n x ^^^ b = stepsB n (x ^^^ (b <<< n)) := by
  have hp : (2 : Nat) ^ n ≤ 2 ^ 24 := Nat.pow_le_pow_right (by omega) hn
  have hm : b.toNat * 2 ^ n ≤ 255 * 2 ^ 24 := Nat.mul_le_mul (by omega) hp
  rw [stepsB_xor, stepsB_shl n b (by omega)]
theorem foldB_bytes (r v : BitVec 32) : foldB r (bytesB v) = stepsB 32 (r ^^^ v) := by
  show stepsB 8 (stepsB 8 (stepsB 8 (stepsB 8 (r ^^^ byteB v 0) ^^^ byteB v 1) ^^^ byteB v 2) ^^^ byteB v 3) = _
  rw [push_byte 8 (by omega) _ _ (byteB_lt v 1), ← stepsB_add, push_byte 16 (by omega) _ _ (byteB_lt v 2), ← stepsB_add, push_byte 24 (by omega) _ _ (byteB_lt v 3), ← stepsB_add]
  congr 1
  conv => rhs; rw [← join_bytes v]
  rw [BitVec.xor_assoc, BitVec.xor_assoc, BitVec.xor_assoc, BitVec.xor_assoc, BitVec.xor_assoc]

/-! what the program reckons -/
def bvs (l : List Int) : List (BitVec 32) := l.map fun x => BitVec.ofInt 32 x
theorem xor_u32 (a b : BitVec 32) : Go.bits .xor .u32 (a.toNat : Int) (b.toNat : Int) = ((a ^^^ b).toNat : Int) := by
  unfold Go.bits
  simp only [IntKind.bits, BitVec.ofInt_natCast, BitVec.ofNat_toNat, BitVec.setWidth_eq, IntKind.wrap_u32]
  have h := (a ^^^ b).isLt
  show ((a ^^^ b).toNat : Int) % 4294967296 = ((a ^^^ b).toNat : Int)
  omega
theorem bitI_step (x : BitVec 32) : bitI (x.toNat : Int) = ((stepB x).toNat : Int) := by
  have e1 : Go.bits .and .u32 (x.toNat : Int) 1 = if x.getLsbD 0 = true then 1 else 0 := by
    have h : Go.bits .and .u32 (x.toNat : Int) ((1 : Nat) : Int) = ((x.toNat &&& 1 : Nat) : Int) :=
      (bits_nat .u32 32 (by decide) (fun n h0 h1 => by rw [IntKind.wrap_u32]; omega) x.toNat 1 x.isLt (by decide)).1
    rw [show (1 : Int) = ((1 : Nat) : Int) from rfl, h, Nat.and_one_is_mod, BitVec.getLsbD, Nat.testBit_zero]
    by_cases c : x.toNat % 2 = 1
    · rw [if_pos (by simpa using c)]; omega
    · rw [if_neg (by simpa using c)]; omega
  have e2 : (x.toNat : Int) / (2 : Int) = ((x >>> 1).toNat : Int) := by
    rw [BitVec.toNat_ushiftRight, Nat.shiftRight_eq_div_pow]; omega
  unfold bitI stepB
  rw [e1, e2]
  by_cases c : x.getLsbD 0 = true
  · rw [if_pos c, if_pos rfl, if_pos c]
    exact xor_u32 (x >>> 1) 3988292384#32
  · rw [if_neg c, if_neg (by decide), if_neg c]
theorem bitsI_steps (n : Nat) : ∀ x : BitVec 32, bitsI n (x.toNat : Int) = ((stepsB n x).toNat : Int) := by
  induction n with
  | zero => intro x; rfl
  | succ n ih => intro x; simp only [bitsI, stepsB, bitI_step, ih]
theorem ofInt_byte (c : Int) (h0 : 0 ≤ c) (h1 : c < 4294967296) : ((BitVec.ofInt 32 c).toNat : Int) = c := by
  rw [BitVec.toNat_ofInt]
  omega
theorem fold_foldB (l : List Int) (hl : ∀ c ∈ l, 0 ≤ c ∧ c < 256) : ∀ x : BitVec 32, l.foldl byteI (x.toNat : Int) = ((foldB x (bvs l)).toNat : Int) := by
  induction l with
  | nil => intro x; rfl
  | cons c l ih =>
    intro x
    have hc := hl c List.mem_cons_self
    rw [List.foldl_cons]
    have e : byteI (x.toNat : Int) c = ((stepsB 8 (x ^^^ BitVec.ofInt 32 c)).toNat : Int) := by
      unfold byteI
      rw [← bitsI_steps, ← xor_u32, ofInt_byte c hc.1 (by omega), Int.emod_eq_of_lt hc.1 (by omega)]
    rw [e, ih (fun d hd => hl d (List.mem_cons_of_mem _ hd))]
    rfl
theorem crcI_foldB (l : List Int) (hl : ∀ c ∈ l, 0 ≤ c ∧ c < 256) : crcI l = ((4294967295#32 ^^^ foldB 4294967295#32 (bvs l)).toNat : Int) := by
  unfold crcI
  have h := fold_foldB l hl 4294967295#32
  have e : ((4294967295#32).toNat : Int) = 4294967295 := rfl
  rw [e] at h
  rw [h, ← xor_u32, e]
theorem lowL_bytesB (v : BitVec 32) : bvs (lowL 4 (v.toNat : Int)) = bytesB v := by
  have key : ∀ i, i < 4 → BitVec.ofInt 32 ((v.toNat : Int) / 256 ^ i % 256) = byteB v i := by
    intro i hi
    unfold byteB
    apply BitVec.eq_of_toNat_eq
    rw [BitVec.toNat_and, BitVec.toNat_ushiftRight, Nat.shiftRight_eq_div_pow, BitVec.toNat_ofInt]
    have e : (255#32).toNat = 2 ^ 8 - 1 := rfl
    rw [e, Nat.and_two_pow_sub_one_eq_mod, Nat.pow_mul]
    have h1 : (v.toNat : Int) / 256 ^ i = ((v.toNat / (2 ^ 8) ^ i : Nat) : Int) := by rw [Int.natCast_ediv, Int.natCast_pow]; rfl
    rw [h1]
    omega
  have k0 := key 0 (by omega)
  have k1 := key 1 (by omega)
  have k2 := key 2 (by omega)
  have k3 := key 3 (by omega)
  have e : lowL 4 (v.toNat : Int) = [(v.toNat : Int) / 256 ^ 0 % 256, (v.toNat : Int) / 256 ^ 1 % 256, (v.toNat : Int) / 256 ^ 2 % 256, (v.toNat : Int) / 256 ^ 3 % 256] := by
    apply List.ext_getElem?
    intro i
    rcases (by omega : i = 0 ∨ i = 1 ∨ i = 2 ∨ i = 3 ∨ 4 ≤ i) with rfl | rfl | rfl | rfl | h
    · rw [lowL_get 4 _ 0 (by omega)]; rfl
    · rw [lowL_get 4 _ 1 (by omega)]; rfl
    · rw [lowL_get 4 _ 2 (by omega)]; rfl
    · rw [lowL_get 4 _ 3 (by omega)]; rfl
    · rw [List.getElem?_eq_none (by rw [lowL_length]; omega), List.getElem?_eq_none (by simp; omega)]
  rw [e]
  simp only [bvs, List.map_cons, List.map_nil, k0, k1, k2, k3]
  rfl
/-- bytes that bear their own sum come to one number -/
theorem whole_foldB (l : List Int) (hl : ∀ c ∈ l, 0 ≤ c ∧ c < 256) : foldB 4294967295#32 (bvs (l ++ lowL 4 (crcI l))) = stepsB 32 4294967295#32 := by
  have e : bvs (l ++ lowL 4 (crcI l)) = bvs l ++ bytesB (4294967295#32 ^^^ foldB 4294967295#32 (bvs l)) := by
    rw [crcI_foldB l hl, ← lowL_bytesB]
    unfold bvs
    rw [List.map_append]
  rw [e, foldB_append, foldB_bytes]
  congr 1
  rw [BitVec.xor_comm 4294967295#32, ← BitVec.xor_assoc, BitVec.xor_self, BitVec.zero_xor]
theorem xor_eq_zero {a b : BitVec 32} (h : a = b) : a ^^^ b = 0#32 := by rw [h, BitVec.xor_self]
/-- two rows of bytes that both bear their own sums don't differ in just one stretch of four bytes -/
theorem burst (l m : List Int) (k r : Nat) (v : BitVec 32) (hv : v ≠ 0#32) (hl : foldB 4294967295#32 (bvs l) = stepsB 32 4294967295#32) (hm : foldB 4294967295#32 (bvs m) = stepsB 32 4294967295#32)
    (h : bvs m = List.zipWith (· ^^^ ·) (bvs l) (List.replicate k 0#32 ++ bytesB v ++ List.replicate r 0#32)) (hlen : l.length = k + 4 + r) : False := by
  have h1 := foldB_xor (bvs l) (List.replicate k 0#32 ++ bytesB v ++ List.replicate r 0#32) 4294967295#32 0#32 (by
    unfold bvs bytesB
    simp only [List.length_map, List.length_append, List.length_replicate, List.length_cons, List.length_nil]
    omega)
  rw [BitVec.xor_zero, ← h, hl, hm] at h1
  have h2 : foldB 0#32 (List.replicate k 0#32 ++ bytesB v ++ List.replicate r 0#32) = 0#32 := by
    have := congrArg (fun z => stepsB 32 4294967295#32 ^^^ z) h1
    simp only [← BitVec.xor_assoc, BitVec.xor_self, BitVec.zero_xor] at this
    exact this.symm
  rw [foldB_append, foldB_append, foldB_zeros, foldB_bytes] at h2
  have h3 := stepsB_zero 32 (foldB_zeros_inj r h2)
  rw [BitVec.zero_xor] at h3
  exact hv h3
end Go.Proofs.Yteaaaldfccildaa.FrameLib
