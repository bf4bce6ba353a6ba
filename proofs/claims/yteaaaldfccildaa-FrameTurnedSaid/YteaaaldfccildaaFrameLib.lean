import Derived.Test.YteaaaldfccildaaG3
import Derived.Test.YteaaaldfccildaaG5
import Derived.Test.YteaaaldfccildaaG6
namespace Go.Proofs.Yteaaaldfccildaa.FrameLib
open Go.RowKit Go.Proofs.Yteaaaldfccildaa.G Go.Proofs.YteaaaldfccildaaW.PrintWords Go.Proofs.YteaaaldfccildaaW.PrintLast Go.Proofs.YteaaaldfccildaaW.PrintMore
set_option linter.unusedVariables false
set_option linter.unusedSimpArgs false

theorem w64 {x : Int} (h0 : -9223372036854775808 ≤ x) (h1 : x ≤ 9223372036854775807) : wrap64 x = x := by unfold wrap64; omega

/-! bytes -/
theorem bytesOf_drop (s : ByteArray) (i : Nat) (h : i < s.size) : (bytesOf s).drop i = bt s (i : Int) :: (bytesOf s).drop (i + 1) := by
  have hl : i < (bytesOf s).length := by rw [bytesOf_length]; exact h
  rw [List.drop_eq_getElem_cons hl]
  congr 1
  rw [← rd_bytesOf]
  unfold rd
  simp [List.getD_eq_getElem?_getD, List.getElem?_eq_getElem hl]
theorem bytesOf_range (s : ByteArray) : ∀ x ∈ bytesOf s, 0 ≤ x ∧ x < 256 := by
  intro x hx
  unfold bytesOf at hx
  obtain ⟨b, _, rfl⟩ := List.mem_map.1 hx
  have := b.toNat_lt
  omega
theorem bytesOf_strOfNums (xs : List Int) (h : ∀ x ∈ xs, 0 ≤ x ∧ x < 256) : bytesOf (strOfNums xs) = xs := by
  unfold bytesOf
  rw [strOfNums_data, List.map_map]
  conv => rhs; rw [← List.map_id xs]
  apply List.map_congr_left
  intro x hx
  have := h x hx
  simp only [Function.comp, id, UInt8.toNat_ofNat']
  omega
theorem bytesOf_inj {a b : ByteArray} (h : bytesOf a = bytesOf b) : a = b := by
  have e : a.data.toList = b.data.toList := by
    unfold bytesOf at h
    refine List.map_inj_right (f := fun b : UInt8 => (b.toNat : Int)) ?_ |>.1 h
    intro x y hxy
    have : x.toNat = y.toNat := by exact_mod_cast hxy
    exact UInt8.toNat_inj.1 this
  cases a; cases b
  simp only [ByteArray.mk.injEq]
  exact Array.toList_inj.1 e
theorem strOfNums_bytesOf (s : ByteArray) : strOfNums (bytesOf s) = s :=
  bytesOf_inj (bytesOf_strOfNums _ (bytesOf_range s))
theorem bytesOf_append (a b : ByteArray) : bytesOf (a ++ b) = bytesOf a ++ bytesOf b := by
  unfold bytesOf
  simp [ByteArray.data_append]
theorem bytesOf_extract (a : ByteArray) (i j : Nat) : bytesOf (a.extract i j) = ((bytesOf a).take j).drop i := by
  unfold bytesOf
  simp only [ByteArray.data_extract, Array.toList_extract, List.extract_eq_drop_take', List.map_drop, List.map_take]
theorem size_strOfNums (xs : List Int) : (strOfNums xs).size = xs.length := by
  rw [← bytesOf_length]
  unfold bytesOf
  rw [List.length_map, strOfNums_data, List.length_map]
theorem toList_eq (a : ByteArray) : a.toList = a.data.toList := by
  have key : ∀ (n i : Nat) (r : List UInt8), a.size - i = n → ByteArray.toList.loop a i r = r.reverse ++ a.data.toList.drop i := by
    intro n
    induction n with
    | zero =>
      intro i r h
      unfold ByteArray.toList.loop
      rw [if_neg (by omega), List.drop_eq_nil_of_le (by rw [Array.length_toList]; show a.size ≤ i; omega), List.append_nil]
    | succ n ih =>
      intro i r h
      unfold ByteArray.toList.loop
      rw [if_pos (by omega), ih (i + 1) _ (by omega)]
      have hl : i < a.data.toList.length := by rw [Array.length_toList]; show i < a.size; omega
      rw [List.drop_eq_getElem_cons hl]
      simp only [List.reverse_cons, List.append_assoc, List.singleton_append]
      congr 2
      unfold ByteArray.get!
      cases a with
      | mk d =>
        simp only [Array.getElem_toList]
        exact getElem!_pos d i _
  unfold ByteArray.toList
  rw [key a.size 0 [] (by omega)]
  simp
theorem toList_inj {a b : ByteArray} : a.toList = b.toList ↔ a = b := by
  rw [toList_eq, toList_eq]
  constructor
  · intro h
    cases a; cases b
    simp only [ByteArray.mk.injEq]
    exact Array.toList_inj.1 h
  · rintro rfl; rfl

/-! the sum -/
def bitI (x : Int) : Int := if (Go.bits .and .u32 x 1) = 1 then Go.bits .xor .u32 (x / 2) 3988292384 else x / 2
def bitsI : Nat → Int → Int
  | 0, x => x
  | n + 1, x => bitsI n (bitI x)
def byteI (x c : Int) : Int := bitsI 8 (Go.bits .xor .u32 x (c % 4294967296))
def crcI (l : List Int) : Int := Go.bits .xor .u32 4294967295 (l.foldl byteI 4294967295)

theorem bits_u32 (op : BinOp) (x y : Int) : 0 ≤ Go.bits op .u32 x y ∧ Go.bits op .u32 x y < 4294967296 := by
  unfold Go.bits
  split <;> simp only [IntKind.wrap_u32] <;> omega
theorem sum_l1 (s : ByteArray) (n0 i : Int) (r : Int) (n : Nat) : ∀ (j x : Int), j + n = 8 → 0 ≤ j → Ev (fun k => frame_sum.l0 k s (bitsI n x) n0 (wrap64 (i + 1))) r → Ev (fun k => frame_sum.l1 k s x n0 i j) r := by
  induction n with
  | zero =>
    intro j x hj h0 h
    refine Ev.step (fun k => ?_) h
    simp only [frame_sum.l1]
    rw [if_neg (by omega)]
    rfl
  | succ n ih =>
    intro j x hj h0 h
    have hw : wrap64 (j + 1) = j + 1 := w64 (by omega) (by omega)
    by_cases c : (Go.bits .and .u32 x 1) = 1
    · refine Ev.step (f := fun k => frame_sum.l1 k s (Go.bits .xor .u32 (x / 2) 3988292384) n0 i (j + 1)) (fun k => ?_) (ih _ _ (by omega) (by omega) ?_)
      · simp only [frame_sum.l1]
        rw [if_pos (by omega), if_pos c, hw]
      · have e : bitI x = Go.bits .xor .u32 (x / 2) 3988292384 := by unfold bitI; rw [if_pos c]
        rw [← e]; exact h
    · refine Ev.step (f := fun k => frame_sum.l1 k s (x / 2) n0 i (j + 1)) (fun k => ?_) (ih _ _ (by omega) (by omega) ?_)
      · simp only [frame_sum.l1]
        rw [if_pos (by omega), if_neg c, hw]
      · have e : bitI x = x / 2 := by unfold bitI; rw [if_neg c]
        rw [← e]; exact h
theorem sum_l0 (s : ByteArray) (hs : s.size ≤ 9223372036854775806) (n : Nat) : ∀ (i : Nat) (x : Int), i + n = s.size → Ev (fun k => frame_sum.l0 k s x (s.size : Int) (i : Int)) (Go.bits .xor .u32 4294967295 (((bytesOf s).drop i).foldl byteI x)) := by
  induction n with
  | zero =>
    intro i x hi
    refine Ev.step (f := fun _ => some (Go.bits .xor .u32 4294967295 x)) (fun k => ?_) ?_
    · simp only [frame_sum.l0]
      rw [if_neg (by omega)]
    · rw [List.drop_eq_nil_of_le (by rw [bytesOf_length]; omega)]
      exact Ev.now _
  | succ n ih =>
    intro i x hi
    refine Ev.step (f := fun k => frame_sum.l1 k s (Go.bits .xor .u32 x ((bt s (i : Int)) % 4294967296)) (s.size : Int) (i : Int) 0) (fun k => ?_) ?_
    · simp only [frame_sum.l0]
      rw [if_pos (by omega), if_pos (by omega), if_pos (by omega)]
    · refine sum_l1 s _ _ _ 8 0 _ (by omega) (by omega) ?_
      rw [bytesOf_drop s i (by omega), List.foldl_cons]
      have hw : wrap64 ((i : Int) + 1) = ((i + 1 : Nat) : Int) := by rw [w64 (by omega) (by omega)]; omega
      rw [hw]
      exact ih (i + 1) _ (by omega)
theorem sum_ev (s : ByteArray) (hs : s.size ≤ 9223372036854775806) : Ev (fun k => frame_sum.f k s) (crcI (bytesOf s)) := by
  have h := sum_l0 s hs s.size 0 4294967295 (by omega)
  exact h
theorem Sum_l1 (s : ByteArray) (i : Int) (r : Int) (n : Nat) : ∀ (j x : Int), j + n = 8 → 0 ≤ j → Ev (fun k => sleuthref12_Sum.l0 k s (bitsI n x) (wrap64 (i + 1))) r → Ev (fun k => sleuthref12_Sum.l1 k s x i j) r := by
  induction n with
  | zero =>
    intro j x hj h0 h
    refine Ev.step (fun k => ?_) h
    simp only [sleuthref12_Sum.l1]
    rw [if_neg (by omega)]
    rfl
  | succ n ih =>
    intro j x hj h0 h
    have hw : wrap64 (j + 1) = j + 1 := w64 (by omega) (by omega)
    by_cases c : (Go.bits .and .u32 x 1) = 1
    · refine Ev.step (f := fun k => sleuthref12_Sum.l1 k s (Go.bits .xor .u32 (x / 2) 3988292384) i (j + 1)) (fun k => ?_) (ih _ _ (by omega) (by omega) ?_)
      · simp only [sleuthref12_Sum.l1]
        rw [if_pos (by omega), if_pos c, hw]
      · have e : bitI x = Go.bits .xor .u32 (x / 2) 3988292384 := by unfold bitI; rw [if_pos c]
        rw [← e]; exact h
    · refine Ev.step (f := fun k => sleuthref12_Sum.l1 k s (x / 2) i (j + 1)) (fun k => ?_) (ih _ _ (by omega) (by omega) ?_)
      · simp only [sleuthref12_Sum.l1]
        rw [if_pos (by omega), if_neg c, hw]
      · have e : bitI x = x / 2 := by unfold bitI; rw [if_neg c]
        rw [← e]; exact h
theorem Sum_l0 (s : ByteArray) (hs : s.size ≤ 9223372036854775806) (n : Nat) : ∀ (i : Nat) (x : Int), i + n = s.size → Ev (fun k => sleuthref12_Sum.l0 k s x (i : Int)) (Go.bits .xor .u32 4294967295 (((bytesOf s).drop i).foldl byteI x)) := by
  induction n with
  | zero =>
    intro i x hi
    have hb : ∀ y : Int, wrap64 (Go.bits .xor .u32 4294967295 y) = Go.bits .xor .u32 4294967295 y := by
      intro y
      have := bits_u32 .xor 4294967295 y
      exact w64 (by omega) (by omega)
    refine Ev.step (f := fun _ => some (Go.bits .xor .u32 4294967295 x)) (fun k => ?_) ?_
    · simp only [sleuthref12_Sum.l0]
      rw [if_neg (by omega), hb]
    · rw [List.drop_eq_nil_of_le (by rw [bytesOf_length]; omega)]
      exact Ev.now _
  | succ n ih =>
    intro i x hi
    refine Ev.step (f := fun k => sleuthref12_Sum.l1 k s (Go.bits .xor .u32 x ((bt s (i : Int)) % 4294967296)) (i : Int) 0) (fun k => ?_) ?_
    · simp only [sleuthref12_Sum.l0]
      rw [if_pos (by omega), if_pos (by omega)]
    · refine Sum_l1 s _ _ 8 0 _ (by omega) (by omega) ?_
      rw [bytesOf_drop s i (by omega), List.foldl_cons]
      have hw : wrap64 ((i : Int) + 1) = ((i + 1 : Nat) : Int) := by rw [w64 (by omega) (by omega)]; omega
      rw [hw]
      exact ih (i + 1) _ (by omega)
theorem Sum_ev (s : ByteArray) (hs : s.size ≤ 9223372036854775806) : Ev (fun k => sleuthref12_Sum.f k s) (crcI (bytesOf s)) :=
  Sum_l0 s hs s.size 0 4294967295 (by omega)
theorem crc_range (l : List Int) : 0 ≤ crcI l ∧ crcI l < 4294967296 := bits_u32 _ _ _

/-! numbers as bytes -/
def lowL : Nat → Int → List Int
  | 0, _ => []
  | n + 1, x => x % 256 :: lowL n (x / 256)
theorem lowL_length (n : Nat) : ∀ x, (lowL n x).length = n := by
  induction n with
  | zero => intro x; rfl
  | succ n ih => intro x; simp only [lowL, List.length_cons, ih]
theorem lowL_range (n : Nat) : ∀ x, ∀ y ∈ lowL n x, 0 ≤ y ∧ y < 256 := by
  induction n with
  | zero => intro x y hy; cases hy
  | succ n ih =>
    intro x y hy
    simp only [lowL, List.mem_cons] at hy
    rcases hy with rfl | hy
    · omega
    · exact ih _ _ hy
theorem low_l0 (m : Nat) (hm : m ≤ 1000) (n : Nat) : ∀ (x : Int) (l : List Int) (j : Int), j + n = m → 0 ≤ j → l.length = j → Ev (fun k => frame_low.l0 k x l (m : Int) j) (l ++ lowL n x) := by
  induction n with
  | zero =>
    intro x l j hj h0 hl
    refine Ev.step (f := fun _ => some l) (fun k => ?_) (by simp only [lowL, List.append_nil]; exact Ev.now _)
    simp only [frame_low.l0]
    rw [if_neg (by omega)]
  | succ n ih =>
    intro x l j hj h0 hl
    have hw : wrap64 (j + 1) = j + 1 := w64 (by omega) (by omega)
    refine Ev.step (f := fun k => frame_low.l0 k (x / 256) (l ++ [x % 256]) (m : Int) (j + 1)) (fun k => ?_) ?_
    · simp only [frame_low.l0]
      rw [if_pos (by omega), if_pos (by omega), hw]
    · have := ih (x / 256) (l ++ [x % 256]) (j + 1) (by omega) (by omega) (by simp only [List.length_append, List.length_singleton]; omega)
      simp only [List.append_assoc, List.singleton_append] at this
      exact this
theorem low_ev (x : Int) (m : Nat) (hm : m ≤ 1000) : Ev (fun k => frame_low.f k x (m : Int)) (lowL m x) := by
  have := low_l0 m hm m x [] 0 (by omega) (by omega) rfl
  exact this
theorem lowL_get (n : Nat) : ∀ (x : Int) (i : Nat), i < n → (lowL n x)[i]? = some (x / 256 ^ i % 256) := by
  induction n with
  | zero => intro x i h; omega
  | succ n ih =>
    intro x i h
    cases i with
    | zero => simp [lowL]
    | succ i =>
      simp only [lowL, List.getElem?_cons_succ]
      rw [ih _ _ (by omega), Int.ediv_ediv_of_nonneg (by omega), Int.pow_succ, Int.mul_comm (256 ^ i) 256]
theorem refLow_l0 (x : Int) (m : Nat) (hm : m ≤ 7) (n : Nat) : ∀ (l : List Int) (j : Nat), j + n = m → l.length = m → (∀ i, i < j → l[i]? = some (x / 256 ^ i % 256)) → Ev (fun k => sleuthref12_low.l0 k x (m : Int) l (j : Int)) (strOfNums (lowL m x)) := by
  induction n with
  | zero =>
    intro l j hj hl h
    refine Ev.step (f := fun _ => some (strOfNums l)) (fun k => ?_) ?_
    · simp only [sleuthref12_low.l0]
      rw [if_neg (by omega)]
    · have e : l = lowL m x := by
        apply List.ext_getElem?
        intro i
        by_cases hi : i < m
        · rw [h i (by omega), lowL_get m x i hi]
        · rw [List.getElem?_eq_none (by omega), List.getElem?_eq_none (by rw [lowL_length]; omega)]
      rw [e]
      exact Ev.now _
  | succ n ih =>
    intro l j hj hl h
    have hw : wrap64 ((j : Int) + 1) = ((j + 1 : Nat) : Int) := by rw [w64 (by omega) (by omega)]; omega
    have hw8 : wrap64 (8 * (j : Int)) = 8 * (j : Int) := w64 (by omega) (by omega)
    refine Ev.step (f := fun k => sleuthref12_low.l0 k x (m : Int) (l.set (j : Int).toNat ((shr .i64 x (8 * (j : Int))) % 256)) ((j + 1 : Nat) : Int)) (fun k => ?_) ?_
    · simp only [sleuthref12_low.l0]
      rw [if_pos (by omega), hw8, if_pos (by omega), if_pos (by omega), if_pos (by omega), hw]
    · refine ih _ (j + 1) (by omega) (by rw [List.length_set]; exact hl) ?_
      intro i hi
      rw [Int.toNat_natCast]
      by_cases e : i = j
      · subst e
        rw [List.getElem?_set_self (by omega)]
        congr 2
        unfold shr
        have e1 : (8 * (i : Int)).toNat = 8 * i := by omega
        rw [e1, Nat.min_eq_left (by simp only [IntKind.bits]; omega), Int.pow_mul, show (2 : Int) ^ 8 = 256 from rfl]
      · rw [List.getElem?_set_ne (by omega)]
        exact h i (by omega)
theorem refLow_ev (x : Int) (m : Nat) (hm : m ≤ 7) : Ev (fun k => sleuthref12_low.f k x (m : Int)) (strOfNums (lowL m x)) := by
  have h := refLow_l0 x m hm m (List.replicate m 0) 0 (by omega) (by simp) (by intro i hi; omega)
  refine Ev.congr (fun k => ?_) h
  unfold sleuthref12_low.f
  rw [if_pos (by omega), if_pos (by omega), Int.toNat_natCast]
  rfl

/-! a frame -/
def headL (s : ByteArray) : List Int := lowL 2 ((s.size : Int) % 4294967296) ++ bytesOf s
def frameOf (s : ByteArray) : ByteArray := strOfNums (headL s ++ lowL 4 (crcI (headL s)))
def putF (s : ByteArray) : ByteArray × Int := if (s.size : Int) > 8192 then (⟨#[]⟩, 1600) else (frameOf s, 0)
theorem headL_range (s : ByteArray) : ∀ x ∈ headL s, 0 ≤ x ∧ x < 256 := by
  intro x hx
  rcases List.mem_append.1 hx with h | h
  · exact lowL_range _ _ _ h
  · exact bytesOf_range _ _ h
theorem headL_length (s : ByteArray) : (headL s).length = 2 + s.size := by
  unfold headL
  rw [List.length_append, lowL_length, bytesOf_length]
theorem put_ev (s : ByteArray) : Ev (fun k => frame_Put.f k s) (putF s) := by
  by_cases c : (s.size : Int) > 8192
  · refine Ev.congr (fun k => ?_) (Ev.now _)
    unfold frame_Put.f putF
    rw [if_pos c, if_pos c]
  · have h1 := low_ev (((s.size : Int)) % 4294967296) 2 (by omega)
    have h2 : Ev (fun k => frame_sum.f k (strOfNums (headL s))) (crcI (headL s)) := by
      have := sum_ev (strOfNums (headL s)) (by rw [size_strOfNums, headL_length]; omega)
      rwa [bytesOf_strOfNums _ (headL_range s)] at this
    have h3 := low_ev (crcI (headL s)) 4 (by omega)
    refine Ev.congr (f := fun k => (frame_low.f k (((s.size : Int)) % 4294967296) 2).bind fun t104 => (if t104.length + s.size < 140737488355328 then ((some (t104 ++ bytesOf s : List Int)).bind fun y107 => ((frame_sum.f k (strOfNums y107)).bind fun t110 => ((frame_low.f k t110 4).bind fun t111 => (if y107.length + t111.length < 140737488355328 then (some (strOfNums (y107 ++ t111), 0)) else (none))))) else (none))) (fun k => ?_) ?_
    · unfold frame_Put.f
      rw [if_neg c]
    · refine Ev.bind h1 ?_
      have e2 : (lowL 2 ((s.size : Int) % 4294967296)).length + s.size < 140737488355328 := by rw [lowL_length]; omega
      simp only [if_pos e2, Option.bind_some]
      refine Ev.bind h2 (Ev.bind h3 ?_)
      rw [if_pos (by rw [lowL_length]; have := headL_length s; unfold headL at this; omega)]
      unfold putF
      rw [if_neg c]
      exact Ev.now _
theorem sized_ev (s : ByteArray) (hs : s.size ≤ 140737488351232) : Ev (fun k => sleuthref12_sized.f k s) (strOfNums (lowL 2 (s.size : Int)) ++ s) := by
  refine Ev.bind (refLow_ev (s.size : Int) 2 (by omega)) ?_
  rw [if_pos (by rw [size_strOfNums, lowL_length]; omega)]
  exact Ev.now _
theorem strOfNums_append (a b : List Int) : strOfNums (a ++ b) = strOfNums a ++ strOfNums b := by
  unfold strOfNums
  apply ByteArray.ext
  simp [ByteArray.data_append]
theorem refPut_ev (s : ByteArray) : Ev (fun k => sleuthref12_PutFrame.f k s) (putF s) := by
  by_cases c : (s.size : Int) > 8192
  · refine Ev.congr (fun k => ?_) (Ev.now _)
    unfold sleuthref12_PutFrame.f putF
    rw [if_pos c, if_pos c]
  · have e : strOfNums (lowL 2 (s.size : Int)) ++ s = strOfNums (headL s) := by
      unfold headL
      rw [strOfNums_append, strOfNums_bytesOf, Int.emod_eq_of_lt (by omega) (by omega)]
    have h1 := sized_ev s (by omega)
    rw [e] at h1
    have h2 : Ev (fun k => sleuthref12_Sum.f k (strOfNums (headL s))) (crcI (headL s)) := by
      have := Sum_ev (strOfNums (headL s)) (by rw [size_strOfNums, headL_length]; omega)
      rwa [bytesOf_strOfNums _ (headL_range s)] at this
    have h3 := refLow_ev (crcI (headL s)) 4 (by omega)
    refine Ev.congr (f := fun k => (sleuthref12_sized.f k s).bind fun t122 => ((sleuthref12_Sum.f k t122).bind fun t123 => ((sleuthref12_low.f k t123 4).bind fun t124 => (if t122.size + t124.size ≤ 9223372036854775807 then (some (t122 ++ t124, 0)) else (none))))) (fun k => ?_) ?_
    · unfold sleuthref12_PutFrame.f
      rw [if_neg c]
    · refine Ev.bind h1 (Ev.bind h2 (Ev.bind h3 ?_))
      rw [if_pos (by rw [size_strOfNums, size_strOfNums, lowL_length, headL_length]; omega)]
      unfold putF
      rw [if_neg c, ← strOfNums_append]
      exact Ev.now _

/-! a frame is taken -/
theorem bt_range (s : ByteArray) (i : Int) : 0 ≤ bt s i ∧ bt s i < 256 := by
  unfold bt
  split
  · have := (s[i.toNat]'(by assumption)).toNat_lt
    omega
  · omega
theorem size_extract (a : ByteArray) (i j : Nat) (h : j ≤ a.size) : (a.extract i j).size = j - i := by
  rw [ByteArray.size_extract]
  omega
def badF : ByteArray × Int × Int := (⟨#[]⟩, 0, 1600)
def manyAt (t : ByteArray) (at_ : Int) : Int := bt t at_ + 256 * bt t (at_ + 1)
def partOf (t : ByteArray) (at_ : Int) : ByteArray := t.extract (at_ + 2).toNat (at_ + 2 + manyAt t at_).toNat
def wholeOf (t : ByteArray) (at_ : Int) : ByteArray := t.extract at_.toNat (at_ + 6 + manyAt t at_).toNat
def getF (t : ByteArray) (at_ : Int) : ByteArray × Int × Int :=
  if at_ < 0 ∨ at_ > (t.size : Int) ∨ (t.size : Int) - at_ < 6 then badF
  else if manyAt t at_ > (t.size : Int) - at_ - 6 ∨ manyAt t at_ > 8192 then badF
  else if frameOf (partOf t at_) = wholeOf t at_ then (partOf t at_, at_ + 6 + manyAt t at_, 0) else badF
theorem get_bad (t : ByteArray) (at_ : Int) : Ev (fun k => frame_Get.j0 k t at_ true) badF := by
  refine Ev.step (f := fun _ => some badF) (fun k => ?_) (Ev.now _)
  simp only [frame_Get.j0]
  rfl
theorem refGet_bad (t : ByteArray) (at_ : Int) : Ev (fun k => sleuthref12_GetFrame.j0 k t at_ true) badF := by
  refine Ev.step (f := fun _ => some badF) (fun k => ?_) (Ev.now _)
  simp only [sleuthref12_GetFrame.j0]
  rfl
theorem refGet_bad1 (t : ByteArray) (at_ m : Int) : Ev (fun k => sleuthref12_GetFrame.j1 k t at_ m true) badF := by
  refine Ev.step (f := fun _ => some badF) (fun k => ?_) (Ev.now _)
  simp only [sleuthref12_GetFrame.j1]
  rfl
theorem putF_snd (s : ByteArray) : (putF s).2 = if (s.size : Int) > 8192 then 1600 else 0 := by unfold putF; split <;> rfl
theorem get_ev (t : ByteArray) (at_ : Int) (ht : t.size ≤ 4611686018427387904) (h0 : -9223372036854775808 ≤ at_) (h1 : at_ ≤ 9223372036854775807) : Ev (fun k => frame_Get.f k t at_) (getF t at_) := by
  by_cases c1 : at_ < 0
  · refine Ev.congr (fun k => ?_) (show Ev (fun k => frame_Get.j0 k t at_ true) (getF t at_) from ?_)
    · unfold frame_Get.f; rw [if_pos c1]
    · unfold getF; rw [if_pos (.inl c1)]; exact get_bad t at_
  by_cases c2 : at_ > (t.size : Int)
  · refine Ev.congr (fun k => ?_) (show Ev (fun k => frame_Get.j0 k t at_ true) (getF t at_) from ?_)
    · unfold frame_Get.f; rw [if_neg c1, if_pos c2]
    · unfold getF; rw [if_pos (.inr (.inl c2))]; exact get_bad t at_
  have hS1 : wrap64 ((t.size : Int) - at_) = (t.size : Int) - at_ := w64 (by omega) (by omega)
  by_cases c3 : (t.size : Int) - at_ < 6
  · refine Ev.congr (fun k => ?_) (show Ev (fun k => frame_Get.j0 k t at_ true) (getF t at_) from ?_)
    · unfold frame_Get.f; rw [if_neg c1, if_neg c2, hS1, decide_eq_true c3]
    · unfold getF; rw [if_pos (.inr (.inr c3))]; exact get_bad t at_
  refine Ev.congr (f := fun k => frame_Get.j0 k t at_ false) (fun k => ?_) ?_
  · unfold frame_Get.f; rw [if_neg c1, if_neg c2, hS1, decide_eq_false c3]
  have b0 := bt_range t at_
  have b1 := bt_range t (at_ + 1)
  have hW1 : wrap64 (at_ + 1) = at_ + 1 := w64 (by omega) (by omega)
  have hW2 : wrap64 (at_ + 2) = at_ + 2 := w64 (by omega) (by omega)
  have hB0 : wrap64 (bt t at_) = bt t at_ := w64 (by omega) (by omega)
  have hB1 : wrap64 (bt t (at_ + 1)) = bt t (at_ + 1) := w64 (by omega) (by omega)
  have hM1 : wrap64 (256 * bt t (at_ + 1)) = 256 * bt t (at_ + 1) := w64 (by omega) (by omega)
  have hmb : 0 ≤ manyAt t at_ ∧ manyAt t at_ ≤ 65535 := by unfold manyAt; omega
  have hM : wrap64 (manyAt t at_) = manyAt t at_ := w64 (by omega) (by omega)
  have hS2 : wrap64 ((t.size : Int) - at_ - 2) = (t.size : Int) - at_ - 2 := w64 (by omega) (by omega)
  have hS3 : wrap64 ((t.size : Int) - at_ - 2 - 4) = (t.size : Int) - at_ - 2 - 4 := w64 (by omega) (by omega)
  have hE : wrap64 (at_ + 2 + manyAt t at_) = at_ + 2 + manyAt t at_ := w64 (by omega) (by omega)
  have hE4 : wrap64 (at_ + 2 + manyAt t at_ + 4) = at_ + 2 + manyAt t at_ + 4 := w64 (by omega) (by omega)
  have hg : getF t at_ = if manyAt t at_ > (t.size : Int) - at_ - 6 ∨ manyAt t at_ > 8192 then badF
      else if frameOf (partOf t at_) = wholeOf t at_ then (partOf t at_, at_ + 6 + manyAt t at_, 0) else badF := by
    unfold getF; rw [if_neg (by omega)]
  have hm : bt t at_ + 256 * bt t (at_ + 1) = manyAt t at_ := rfl
  rw [hg]
  by_cases c4 : manyAt t at_ > (t.size : Int) - at_ - 2 - 4
  · refine Ev.step (f := fun _ => some badF) (fun k => ?_) ?_
    · simp only [frame_Get.j0, hW1, hW2, hB0, hB1, hM1, hM, hS1, hS2, hS3, hE, hE4, hm]
      rw [if_neg (by decide), if_pos (by omega), if_pos (by omega), if_pos (by omega), if_pos (by omega), if_pos c4]
      rfl
    · rw [if_pos (.inl (by omega))]; exact Ev.now _
  refine Ev.step (f := fun k => (frame_Put.f k (partOf t at_)).bind fun b => if b.2 = 0 then (if b.1.toList = (wholeOf t at_).toList then some (partOf t at_, at_ + 6 + manyAt t at_, 0) else some badF) else some badF) (fun k => ?_) ?_
  · have e6 : at_ + 2 + manyAt t at_ + 4 = at_ + 6 + manyAt t at_ := by omega
    simp only [frame_Get.j0, hW1, hW2, hB0, hB1, hM1, hM, hS1, hS2, hS3, hE, hE4, hm]
    rw [if_neg (by decide), if_pos (by omega), if_pos (by omega), if_pos (by omega), if_pos (by omega), if_neg c4, if_pos (by omega), if_pos (by omega), if_pos (by omega)]
    have hA : at_ ≤ at_ + 6 + manyAt t at_ := by omega
    have hA2 : at_ + 6 + manyAt t at_ ≤ (t.size : Int) := by omega
    simp only [e6, if_pos hA, if_pos hA2]
    rfl
  · refine Ev.bind (put_ev (partOf t at_)) ?_
    have hs : ((partOf t at_).size : Int) = manyAt t at_ := by
      unfold partOf
      rw [size_extract _ _ _ (by omega)]
      omega
    by_cases c5 : manyAt t at_ > 8192
    · rw [if_pos (show manyAt t at_ > (t.size : Int) - at_ - 6 ∨ manyAt t at_ > 8192 from .inr c5)]
      have e : (putF (partOf t at_)).2 = 1600 := by rw [putF_snd, hs, if_pos c5]
      rw [e, if_neg (by decide)]
      exact Ev.now _
    · rw [if_neg (show ¬ (manyAt t at_ > (t.size : Int) - at_ - 6 ∨ manyAt t at_ > 8192) from by omega)]
      have e : putF (partOf t at_) = (frameOf (partOf t at_), 0) := by unfold putF; rw [hs, if_neg c5]
      rw [e, if_pos rfl]
      by_cases c6 : frameOf (partOf t at_) = wholeOf t at_
      · rw [if_pos c6, if_pos (toList_inj.2 c6)]; exact Ev.now _
      · rw [if_neg c6, if_neg (fun h => c6 (toList_inj.1 h))]; exact Ev.now _
theorem refGet_ev (t : ByteArray) (at_ : Int) (ht : t.size ≤ 4611686018427387904) (h0 : -9223372036854775808 ≤ at_) (h1 : at_ ≤ 9223372036854775807) : Ev (fun k => sleuthref12_GetFrame.f k t at_) (getF t at_) := by
  by_cases c1 : at_ < 0
  · refine Ev.congr (fun k => ?_) (show Ev (fun k => sleuthref12_GetFrame.j0 k t at_ true) (getF t at_) from ?_)
    · unfold sleuthref12_GetFrame.f; rw [if_pos c1]
    · unfold getF; rw [if_pos (.inl c1)]; exact refGet_bad t at_
  by_cases c2 : at_ > (t.size : Int)
  · refine Ev.congr (fun k => ?_) (show Ev (fun k => sleuthref12_GetFrame.j0 k t at_ true) (getF t at_) from ?_)
    · unfold sleuthref12_GetFrame.f; rw [if_neg c1, if_pos c2]
    · unfold getF; rw [if_pos (.inr (.inl c2))]; exact refGet_bad t at_
  have hS1 : wrap64 ((t.size : Int) - at_) = (t.size : Int) - at_ := w64 (by omega) (by omega)
  by_cases c3 : (t.size : Int) - at_ < 6
  · refine Ev.congr (fun k => ?_) (show Ev (fun k => sleuthref12_GetFrame.j0 k t at_ true) (getF t at_) from ?_)
    · unfold sleuthref12_GetFrame.f; rw [if_neg c1, if_neg c2, hS1, decide_eq_true c3]
    · unfold getF; rw [if_pos (.inr (.inr c3))]; exact refGet_bad t at_
  refine Ev.congr (f := fun k => sleuthref12_GetFrame.j0 k t at_ false) (fun k => ?_) ?_
  · unfold sleuthref12_GetFrame.f; rw [if_neg c1, if_neg c2, hS1, decide_eq_false c3]
  have b0 := bt_range t at_
  have b1 := bt_range t (at_ + 1)
  have hW1 : wrap64 (at_ + 1) = at_ + 1 := w64 (by omega) (by omega)
  have hW2 : wrap64 (at_ + 2) = at_ + 2 := w64 (by omega) (by omega)
  have hW6 : wrap64 (at_ + 6) = at_ + 6 := w64 (by omega) (by omega)
  have hB0 : wrap64 (bt t at_) = bt t at_ := w64 (by omega) (by omega)
  have hB1 : wrap64 (bt t (at_ + 1)) = bt t (at_ + 1) := w64 (by omega) (by omega)
  have hM1 : wrap64 (256 * bt t (at_ + 1)) = 256 * bt t (at_ + 1) := w64 (by omega) (by omega)
  have hmb : 0 ≤ manyAt t at_ ∧ manyAt t at_ ≤ 65535 := by unfold manyAt; omega
  have hM : wrap64 (manyAt t at_) = manyAt t at_ := w64 (by omega) (by omega)
  have h6 : wrap64 (6 + manyAt t at_) = 6 + manyAt t at_ := w64 (by omega) (by omega)
  have hE : wrap64 (at_ + 2 + manyAt t at_) = at_ + 2 + manyAt t at_ := w64 (by omega) (by omega)
  have hE6 : wrap64 (at_ + 6 + manyAt t at_) = at_ + 6 + manyAt t at_ := w64 (by omega) (by omega)
  have hg : getF t at_ = if manyAt t at_ > (t.size : Int) - at_ - 6 ∨ manyAt t at_ > 8192 then badF
      else if frameOf (partOf t at_) = wholeOf t at_ then (partOf t at_, at_ + 6 + manyAt t at_, 0) else badF := by
    unfold getF; rw [if_neg (by omega)]
  have hm : bt t at_ + 256 * bt t (at_ + 1) = manyAt t at_ := rfl
  rw [hg]
  by_cases c5 : manyAt t at_ > 8192
  · rw [if_pos (.inr c5)]
    refine Ev.step (f := fun k => sleuthref12_GetFrame.j1 k t at_ (manyAt t at_) true) (fun k => ?_) (refGet_bad1 _ _ _)
    simp only [sleuthref12_GetFrame.j0, hW1, hB0, hB1, hM1, hM, hS1, h6, hm]
    rw [if_neg (by decide), if_pos (by omega), if_pos (by omega), if_pos (by omega), if_pos (by omega), if_pos c5]
  by_cases c4 : manyAt t at_ > (t.size : Int) - at_ - 6
  · rw [if_pos (.inl c4)]
    refine Ev.step (f := fun k => sleuthref12_GetFrame.j1 k t at_ (manyAt t at_) true) (fun k => ?_) (refGet_bad1 _ _ _)
    simp only [sleuthref12_GetFrame.j0, hW1, hB0, hB1, hM1, hM, hS1, h6, hm]
    rw [if_neg (by decide), if_pos (by omega), if_pos (by omega), if_pos (by omega), if_pos (by omega), if_neg c5, decide_eq_true (by omega)]
  rw [if_neg (by omega)]
  refine Ev.step (f := fun k => sleuthref12_GetFrame.j1 k t at_ (manyAt t at_) false) (fun k => ?_) ?_
  · simp only [sleuthref12_GetFrame.j0, hW1, hB0, hB1, hM1, hM, hS1, h6, hm]
    rw [if_neg (by decide), if_pos (by omega), if_pos (by omega), if_pos (by omega), if_pos (by omega), if_neg c5, decide_eq_false (by omega)]
  have hs : ((partOf t at_).size : Int) = manyAt t at_ := by
    unfold partOf
    rw [size_extract _ _ _ (by omega)]
    omega
  refine Ev.step (f := fun k => (sleuthref12_PutFrame.f k (partOf t at_)).bind fun b => if b.1.toList = (wholeOf t at_).toList then some (partOf t at_, at_ + 6 + manyAt t at_, 0) else some badF) (fun k => ?_) ?_
  · simp only [sleuthref12_GetFrame.j1, hW2, hW6, hE, hE6]
    have hA : at_ ≤ at_ + 6 + manyAt t at_ := by omega
    have hA2 : at_ + 6 + manyAt t at_ ≤ (t.size : Int) := by omega
    have hA3 : 0 ≤ at_ := by omega
    rw [if_neg (by decide), if_pos (by omega), if_pos (by omega), if_pos (by omega)]
    simp only [if_pos hA, if_pos hA2, if_pos hA3]
    rfl
  · refine Ev.bind (refPut_ev (partOf t at_)) ?_
    have e : putF (partOf t at_) = (frameOf (partOf t at_), 0) := by unfold putF; rw [hs, if_neg c5]
    rw [e]
    by_cases c6 : frameOf (partOf t at_) = wholeOf t at_
    · rw [if_pos c6, if_pos (toList_inj.2 c6)]; exact Ev.now _
    · rw [if_neg c6, if_neg (fun h => c6 (toList_inj.1 h))]; exact Ev.now _
theorem num_ev (x : Int) : Ev (fun _ => sleuthlaw0_Num.f x) x := Ev.now _

/-! a frame, wherever it stands, is taken -/
theorem frame_bytes (s : ByteArray) : bytesOf (frameOf s) = headL s ++ lowL 4 (crcI (headL s)) := by
  unfold frameOf
  refine bytesOf_strOfNums _ (fun x hx => ?_)
  rcases List.mem_append.1 hx with h | h
  · exact headL_range _ _ h
  · exact lowL_range _ _ _ h
theorem frame_size (s : ByteArray) : (frameOf s).size = 6 + s.size := by
  rw [← bytesOf_length, frame_bytes, List.length_append, lowL_length, headL_length]
  omega
theorem bt_get (s : ByteArray) (i : Nat) : bt s (i : Int) = (bytesOf s).getD i 0 := by
  rw [← rd_bytesOf]; rfl
theorem get_frame (a s b : ByteArray) (hs : s.size ≤ 8192) : getF ((a ++ frameOf s) ++ b) (a.size : Int) = (s, (a.size : Int) + (frameOf s).size, 0) := by
  have hB : bytesOf ((a ++ frameOf s) ++ b) = bytesOf a ++ (headL s ++ lowL 4 (crcI (headL s)) ++ bytesOf b) := by
    rw [bytesOf_append, bytesOf_append, frame_bytes, List.append_assoc, List.append_assoc]
  have hz : ((a ++ frameOf s) ++ b).size = a.size + (6 + s.size) + b.size := by
    rw [ByteArray.size_append, ByteArray.size_append, frame_size]
  have hh : headL s = [(s.size : Int) % 4294967296 % 256, (s.size : Int) % 4294967296 / 256 % 256] ++ bytesOf s := rfl
  have h0 : bt ((a ++ frameOf s) ++ b) (a.size : Int) = (s.size : Int) % 256 := by
    rw [bt_get, hB, List.getD_eq_getElem?_getD, List.getElem?_append_right (by rw [bytesOf_length]; omega), bytesOf_length, Nat.sub_self, hh]
    simp only [List.cons_append, List.getElem?_cons_zero, Option.getD_some]
    omega
  have h1 : bt ((a ++ frameOf s) ++ b) ((a.size : Int) + 1) = (s.size : Int) / 256 := by
    have e : ((a.size : Int) + 1) = ((a.size + 1 : Nat) : Int) := by omega
    rw [e, bt_get, hB, List.getD_eq_getElem?_getD, List.getElem?_append_right (by rw [bytesOf_length]; omega), bytesOf_length, show a.size + 1 - a.size = 1 from by omega, hh]
    simp only [List.cons_append, List.getElem?_cons_succ, List.getElem?_cons_zero, Option.getD_some]
    omega
  have hm : manyAt ((a ++ frameOf s) ++ b) (a.size : Int) = (s.size : Int) := by
    unfold manyAt; rw [h0, h1]; omega
  have hp : partOf ((a ++ frameOf s) ++ b) (a.size : Int) = s := by
    apply bytesOf_inj
    unfold partOf
    rw [hm, bytesOf_extract, hB]
    have e1 : ((a.size : Int) + 2).toNat = (bytesOf a).length + 2 := by rw [bytesOf_length]; omega
    have e2 : ((a.size : Int) + 2 + (s.size : Int)).toNat = (bytesOf a).length + (2 + s.size) := by rw [bytesOf_length]; omega
    rw [e1, e2, List.take_length_add_append, List.drop_length_add_append, hh, List.append_assoc, List.append_assoc]
    rw [show 2 + s.size = ([(s.size : Int) % 4294967296 % 256, (s.size : Int) % 4294967296 / 256 % 256]).length + s.size from by simp]
    rw [List.take_length_add_append]
    rw [show (2 : Nat) = ([(s.size : Int) % 4294967296 % 256, (s.size : Int) % 4294967296 / 256 % 256]).length from rfl]
    rw [List.drop_left, List.take_append_of_le_length (by rw [bytesOf_length]; omega), List.take_of_length_le (by rw [bytesOf_length]; omega)]
  have hw : wholeOf ((a ++ frameOf s) ++ b) (a.size : Int) = frameOf s := by
    apply bytesOf_inj
    unfold wholeOf
    rw [hm, bytesOf_extract, bytesOf_append, bytesOf_append, List.append_assoc]
    have e1 : ((a.size : Int)).toNat = (bytesOf a).length := by rw [bytesOf_length]; omega
    have e2 : ((a.size : Int) + 6 + (s.size : Int)).toNat = (bytesOf a).length + (bytesOf (frameOf s)).length := by rw [bytesOf_length, bytesOf_length, frame_size]; omega
    rw [e1, e2, List.take_length_add_append, List.drop_left, List.take_left]
  unfold getF
  rw [hz, hm, hp, hw, if_neg (by omega), if_neg (by omega), if_pos rfl, frame_size]
  congr 2
  omega
end Go.Proofs.Yteaaaldfccildaa.FrameLib
