/- Parts of this proof, one behind the other: TTrail, ByteLib, FileFrame, TRec, TFile, RecVals, RecGet, FileVals, TNodes, FileWake. -/
import Derived.Test.YtnhmmbgnaogokaaDoorU10
import Derived.Test.YtnhmmbgnaogokaaDoorU7
import Derived.OpenShut
import Derived.Test.YtnhmmbgnaogokaaDoorU8
import Derived.Test.YtnhmmbgnaogokaaDoorU9
section
namespace Go.Proofs.YtnhmmbgnaogokaaDoor.G
open Go.RowKit Go.Proofs.YtnhmmbgnaogokaaDoorW.PrintWords Go.Proofs.YtnhmmbgnaogokaaDoorW.PrintLast Go.Proofs.YtnhmmbgnaogokaaDoorW.PrintMore
set_option linter.unusedVariables false
set_option linter.unusedSimpArgs false
abbrev Nd := S37
abbrev rn (ns : List Nd) (i : Int) : Nd := rd_T37 ns i
theorem rn_eq (ns : List Nd) (i : Nat) (h : i < ns.length) : rn ns (i : Int) = ns[i] := by
  show ns.getD _ _ = _
  rw [Int.toNat_natCast, List.getD_eq_getElem?_getD, List.getElem?_eq_getElem h]; rfl

def okN (ns : List Nd) : Prop := ns.length ≤ 2513169434845 ∧ ∀ x ∈ ns, x.f2.length ≤ 8796093021952
theorem okN.at {ns : List Nd} (h : okN ns) (i : Int) : (rn ns i).f2.length ≤ 8796093021952 := by
  show (ns.getD i.toNat _).f2.length ≤ _
  rw [List.getD_eq_getElem?_getD]
  cases hg : ns[i.toNat]? with
  | none => exact Nat.zero_le _
  | some x => exact h.2 x (List.mem_of_getElem? hg)

def eqS (x : Nd) : Bool := decide (0 ≤ x.f0) && decide (x.f0 < 8) && decide (x.f2.length ≤ 3) && x.f2.all mayS && mayS x.f3
def nextS (x : Nd) (i : Int) : Bool := decide (i < 512) && (decide (0 ≤ x.f1 ∧ x.f1 < i) || decide (i = 0 ∧ x.f1 = -1)) && eqS x
def mayT (ns : List Nd) : Bool := decide (0 < ns.length) && (List.range ns.length).all fun i => nextS (rn ns (i : Int)) (i : Int)
theorem all_l0 (l : List ByteArray) (hl : l.length ≤ 9223372036854775806) : ∀ (n i : Nat), i + n = l.length → Ev (fun k => term_All.l0 k l (l.length : Int) (i : Int)) ((l.drop i).all mayS) := by
  intro n
  induction n with
  | zero =>
    intro i hi
    refine Ev.step (f := fun _ => some true) (fun k => ?_) ?_
    · simp only [term_All.l0]; rw [if_neg (by omega)]
    · rw [List.drop_eq_nil_of_le (by omega)]; exact Ev.now _
  | succ n ih =>
    intro i hi
    have hlt : i < l.length := by omega
    have hw : wrap64 ((i : Int) + 1) = ((i + 1 : Nat) : Int) := by rw [w64 (by omega) (by omega)]; omega
    refine Ev.step (f := fun k => (term_May.f k l[i]).bind fun t => if t = true then term_All.l0 k l (l.length : Int) ((i + 1 : Nat) : Int) else some false) (fun k => ?_) ?_
    · simp only [term_All.l0]
      rw [if_pos (by omega), if_pos (by omega), if_pos (by omega), hw]
      have : rdOf ByteArray.empty l (i : Int) = l[i] := by
        show l.getD _ _ = _
        rw [Int.toNat_natCast, List.getD_eq_getElem?_getD, List.getElem?_eq_getElem hlt]; rfl
      rw [this]
    · refine Ev.bind (may_ev _) ?_
      rw [List.drop_eq_getElem_cons hlt, List.all_cons]
      cases mayS l[i] with
      | true => simp only [if_pos, Bool.true_and]; exact ih (i + 1) (by omega)
      | false => simp only [Bool.false_and]; exact Ev.now _
theorem all_ev (l : List ByteArray) (hl : l.length ≤ 9223372036854775806) : Ev (fun k => term_All.f k l) (l.all mayS) := by
  have := all_l0 l hl l.length 0 (by omega)
  rw [List.drop_zero] at this
  exact this
theorem equation_ev (x : Nd) : Ev (fun k => trail_Equation.f k x.f0 x.f1 x.f2 x.f3) (eqS x) := by
  unfold trail_Equation.f eqS
  by_cases c1 : 0 ≤ x.f0
  · by_cases c2 : x.f0 < 8
    · by_cases c3 : (x.f2.length : Int) ≤ 3
      · simp only [if_pos c1, if_pos c2, if_pos c3, decide_eq_true c1, decide_eq_true c2, decide_eq_true (show x.f2.length ≤ 3 by omega), Bool.true_and]
        refine Ev.bind (all_ev _ (by omega)) ?_
        cases x.f2.all mayS with
        | true => simp only [if_pos, Bool.true_and]; exact may_ev _
        | false => simp only [Bool.false_and]; exact Ev.now _
      · simp only [if_pos c1, if_pos c2, if_neg c3, decide_eq_false (show ¬ x.f2.length ≤ 3 by omega), Bool.and_false, Bool.false_and]; exact Ev.now _
    · simp only [if_pos c1, if_neg c2, decide_eq_false c2, Bool.and_false, Bool.false_and]; exact Ev.now _
  · simp only [if_neg c1, decide_eq_false c1, Bool.false_and]; exact Ev.now _
theorem next_ev (x : Nd) (i : Int) : Ev (fun k => trail_Next.f k x.f0 x.f1 x.f2 x.f3 i) (nextS x i) := by
  unfold trail_Next.f nextS
  by_cases c1 : i < 512
  · by_cases c2 : (0 ≤ x.f1 ∧ x.f1 < i) ∨ (i = 0 ∧ x.f1 = -1)
    · simp only [if_pos c1, if_pos c2, decide_eq_true c1, Bool.true_and]
      have : (decide (0 ≤ x.f1 ∧ x.f1 < i) || decide (i = 0 ∧ x.f1 = -1)) = true := by
        rw [Bool.or_eq_true, decide_eq_true_iff, decide_eq_true_iff]; exact c2
      rw [this, Bool.true_and]
      exact equation_ev x
    · simp only [if_pos c1, if_neg c2, decide_eq_true c1, Bool.true_and]
      have : (decide (0 ≤ x.f1 ∧ x.f1 < i) || decide (i = 0 ∧ x.f1 = -1)) = false := by
        rw [← Bool.not_eq_true, Bool.or_eq_true, decide_eq_true_iff, decide_eq_true_iff]; exact c2
      rw [this, Bool.false_and]
      exact Ev.now _
  · simp only [if_neg c1, decide_eq_false c1, Bool.false_and]; exact Ev.now _
theorem nextS_512 {x : Nd} {i : Int} (h : nextS x i = true) : i < 512 := by
  unfold nextS at h
  rw [Bool.and_eq_true, Bool.and_eq_true, decide_eq_true_iff] at h
  exact h.1.1
theorem trailMay_l0 (ns : List Nd) : ∀ (n i : Nat), i + n = ns.length → Ev (fun k => trail_May.l0 k ns (i : Int)) (decide (0 < ns.length) && (List.range' i n).all fun j => nextS (rn ns (j : Int)) (j : Int)) := by
  intro n
  induction n with
  | zero =>
    intro i hi
    refine Ev.step (f := fun _ => some (decide (0 < ns.length))) (fun k => ?_) ?_
    · simp only [trail_May.l0]
      rw [if_neg (by omega)]
      congr 1
      exact decide_eq_decide.2 (by omega)
    · simp only [List.range'_zero, List.all_nil, Bool.and_true]; exact Ev.now _
  | succ n ih =>
    intro i hi
    refine Ev.step (f := fun k => (trail_Next.f k (rn ns (i : Int)).f0 (rn ns (i : Int)).f1 (rn ns (i : Int)).f2 (rn ns (i : Int)).f3 (i : Int)).bind fun t => if t = true then trail_May.l0 k ns (wrap64 ((i : Int) + 1)) else some false) (fun k => ?_) ?_
    · simp only [trail_May.l0]
      rw [if_pos (by omega), if_pos (by omega)]
    · refine Ev.bind (next_ev (rn ns (i : Int)) (i : Int)) ?_
      rw [List.range'_succ, List.all_cons]
      cases hn : nextS (rn ns (i : Int)) (i : Int) with
      | true =>
        have := nextS_512 hn
        simp only [if_pos, Bool.true_and]
        rw [show wrap64 ((i : Int) + 1) = ((i + 1 : Nat) : Int) from by rw [w64 (by omega) (by omega)]; omega]
        exact ih (i + 1) (by omega)
      | false => simp only [Bool.false_and, Bool.and_false]; exact Ev.now _
theorem trailMay_ev (ns : List Nd) : Ev (fun k => trail_May.f k ns) (mayT ns) := by
  have := trailMay_l0 ns ns.length 0 (by omega)
  unfold mayT
  rw [List.range_eq_range']
  exact this
theorem bytesOf_drop (s : ByteArray) (i : Nat) (h : i < s.size) : (bytesOf s).drop i = bt s (i : Int) :: (bytesOf s).drop (i + 1) := by
  have hl : i < (bytesOf s).length := by rw [bytesOf_length]; exact h
  rw [List.drop_eq_getElem_cons hl]
  congr 1
  rw [← rd_bytesOf]
  unfold rd
  simp [List.getD_eq_getElem?_getD, List.getElem?_eq_getElem hl]
theorem bytesOf_range (s : ByteArray) : ∀ x ∈ bytesOf s, 0 ≤ x ∧ x < 256 := by
  intro x hx
  unfold bytesOf at hx
  obtain ⟨b, _, rfl⟩ := List.mem_map.1 hx
  have := b.toNat_lt
  omega
theorem bytesOf_strOfNums (xs : List Int) (h : ∀ x ∈ xs, 0 ≤ x ∧ x < 256) : bytesOf (strOfNums xs) = xs := by
  unfold bytesOf
  rw [strOfNums_data, List.map_map]
  conv => rhs; rw [← List.map_id xs]
  apply List.map_congr_left
  intro x hx
  have := h x hx
  simp only [Function.comp, id, UInt8.toNat_ofNat']
  omega
theorem bytesOf_inj {a b : ByteArray} (h : bytesOf a = bytesOf b) : a = b := by
  have e : a.data.toList = b.data.toList := by
    unfold bytesOf at h
    refine List.map_inj_right (f := fun b : UInt8 => (b.toNat : Int)) ?_ |>.1 h
    intro x y hxy
    have : x.toNat = y.toNat := by exact_mod_cast hxy
    exact UInt8.toNat_inj.1 this
  cases a; cases b
  simp only [ByteArray.mk.injEq]
  exact Array.toList_inj.1 e
theorem strOfNums_bytesOf (s : ByteArray) : strOfNums (bytesOf s) = s :=
  bytesOf_inj (bytesOf_strOfNums _ (bytesOf_range s))
theorem bytesOf_append (a b : ByteArray) : bytesOf (a ++ b) = bytesOf a ++ bytesOf b := by
  unfold bytesOf
  simp [ByteArray.data_append]
theorem bytesOf_extract (a : ByteArray) (i j : Nat) : bytesOf (a.extract i j) = ((bytesOf a).take j).drop i := by
  unfold bytesOf
  simp only [ByteArray.data_extract, Array.toList_extract, List.extract_eq_drop_take', List.map_drop, List.map_take]
theorem size_strOfNums (xs : List Int) : (strOfNums xs).size = xs.length := by
  rw [← bytesOf_length]
  unfold bytesOf
  rw [List.length_map, strOfNums_data, List.length_map]
theorem toList_eq (a : ByteArray) : a.toList = a.data.toList := by
  have key : ∀ (n i : Nat) (r : List UInt8), a.size - i = n → ByteArray.toList.loop a i r = r.reverse ++ a.data.toList.drop i := by
    intro n
    induction n with
    | zero =>
      intro i r h
      unfold ByteArray.toList.loop
      rw [if_neg (by omega), List.drop_eq_nil_of_le (by rw [Array.length_toList]; show a.size ≤ i; omega), List.append_nil]
    | succ n ih =>
      intro i r h
      unfold ByteArray.toList.loop
      rw [if_pos (by omega), ih (i + 1) _ (by omega)]
      have hl : i < a.data.toList.length := by rw [Array.length_toList]; show i < a.size; omega
      rw [List.drop_eq_getElem_cons hl]
      simp only [List.reverse_cons, List.append_assoc, List.singleton_append]
      congr 2
      unfold ByteArray.get!
      cases a with
      | mk d =>
        simp only [Array.getElem_toList]
        exact getElem!_pos d i _
  unfold ByteArray.toList
  rw [key a.size 0 [] (by omega)]
  simp
theorem toList_inj {a b : ByteArray} : a.toList = b.toList ↔ a = b := by
  rw [toList_eq, toList_eq]
  constructor
  · intro h
    cases a; cases b
    simp only [ByteArray.mk.injEq]
    exact Array.toList_inj.1 h
  · rintro rfl; rfl

/-! the sum -/
def lowL : Nat → Int → List Int
  | 0, _ => []
  | n + 1, x => x % 256 :: lowL n (x / 256)
theorem lowL_length (n : Nat) : ∀ x, (lowL n x).length = n := by
  induction n with
  | zero => intro x; rfl
  | succ n ih => intro x; simp only [lowL, List.length_cons, ih]
theorem lowL_range (n : Nat) : ∀ x, ∀ y ∈ lowL n x, 0 ≤ y ∧ y < 256 := by
  induction n with
  | zero => intro x y hy; cases hy
  | succ n ih =>
    intro x y hy
    simp only [lowL, List.mem_cons] at hy
    rcases hy with rfl | hy
    · omega
    · exact ih _ _ hy
theorem lowL_get (n : Nat) : ∀ (x : Int) (i : Nat), i < n → (lowL n x)[i]? = some (x / 256 ^ i % 256) := by
  induction n with
  | zero => intro x i h; omega
  | succ n ih =>
    intro x i h
    cases i with
    | zero => simp [lowL]
    | succ i =>
      simp only [lowL, List.getElem?_cons_succ]
      rw [ih _ _ (by omega), Int.ediv_ediv_of_nonneg (by omega), Int.pow_succ, Int.mul_comm (256 ^ i) 256]
theorem strOfNums_append (a b : List Int) : strOfNums (a ++ b) = strOfNums a ++ strOfNums b := by
  unfold strOfNums
  apply ByteArray.ext
  simp [ByteArray.data_append]
theorem bt_range (s : ByteArray) (i : Int) : 0 ≤ bt s i ∧ bt s i < 256 := by
  unfold bt
  split
  · have := (s[i.toNat]'(by assumption)).toNat_lt
    omega
  · omega
theorem size_extract (a : ByteArray) (i j : Nat) (h : j ≤ a.size) : (a.extract i j).size = j - i := by
  rw [ByteArray.size_extract]
  omega
theorem bt_get (s : ByteArray) (i : Nat) : bt s (i : Int) = (bytesOf s).getD i 0 := by
  rw [← rd_bytesOf]; rfl
def bitI (x : Int) : Int := if (Go.bits .and .u32 x 1) = 1 then Go.bits .xor .u32 (x / 2) 3988292384 else x / 2
def bitsI : Nat → Int → Int
  | 0, x => x
  | n + 1, x => bitsI n (bitI x)
def byteI (x c : Int) : Int := bitsI 8 (Go.bits .xor .u32 x (c % 4294967296))
def crcI (l : List Int) : Int := Go.bits .xor .u32 4294967295 (l.foldl byteI 4294967295)

theorem bits_u32 (op : BinOp) (x y : Int) : 0 ≤ Go.bits op .u32 x y ∧ Go.bits op .u32 x y < 4294967296 := by
  unfold Go.bits
  split <;> simp only [IntKind.wrap_u32] <;> omega
theorem sum_l1 (s : ByteArray) (n0 i : Int) (r : Int) (n : Nat) : ∀ (j x : Int), j + n = 8 → 0 ≤ j → Ev (fun k => frame_sum.l0 k s (bitsI n x) n0 (wrap64 (i + 1))) r → Ev (fun k => frame_sum.l1 k s x n0 i j) r := by
  induction n with
  | zero =>
    intro j x hj h0 h
    refine Ev.step (fun k => ?_) h
    simp only [frame_sum.l1]
    rw [if_neg (by omega)]
    rfl
  | succ n ih =>
    intro j x hj h0 h
    have hw : wrap64 (j + 1) = j + 1 := w64 (by omega) (by omega)
    by_cases c : (Go.bits .and .u32 x 1) = 1
    · refine Ev.step (f := fun k => frame_sum.l1 k s (Go.bits .xor .u32 (x / 2) 3988292384) n0 i (j + 1)) (fun k => ?_) (ih _ _ (by omega) (by omega) ?_)
      · simp only [frame_sum.l1]
        rw [if_pos (by omega), if_pos c, hw]
      · have e : bitI x = Go.bits .xor .u32 (x / 2) 3988292384 := by unfold bitI; rw [if_pos c]
        rw [← e]; exact h
    · refine Ev.step (f := fun k => frame_sum.l1 k s (x / 2) n0 i (j + 1)) (fun k => ?_) (ih _ _ (by omega) (by omega) ?_)
      · simp only [frame_sum.l1]
        rw [if_pos (by omega), if_neg c, hw]
      · have e : bitI x = x / 2 := by unfold bitI; rw [if_neg c]
        rw [← e]; exact h
theorem sum_l0 (s : ByteArray) (hs : s.size ≤ 9223372036854775806) (n : Nat) : ∀ (i : Nat) (x : Int), i + n = s.size → Ev (fun k => frame_sum.l0 k s x (s.size : Int) (i : Int)) (Go.bits .xor .u32 4294967295 (((bytesOf s).drop i).foldl byteI x)) := by
  induction n with
  | zero =>
    intro i x hi
    refine Ev.step (f := fun _ => some (Go.bits .xor .u32 4294967295 x)) (fun k => ?_) ?_
    · simp only [frame_sum.l0]
      rw [if_neg (by omega)]
    · rw [List.drop_eq_nil_of_le (by rw [bytesOf_length]; omega)]
      exact Ev.now _
  | succ n ih =>
    intro i x hi
    refine Ev.step (f := fun k => frame_sum.l1 k s (Go.bits .xor .u32 x ((bt s (i : Int)) % 4294967296)) (s.size : Int) (i : Int) 0) (fun k => ?_) ?_
    · simp only [frame_sum.l0]
      rw [if_pos (by omega), if_pos (by omega), if_pos (by omega)]
    · refine sum_l1 s _ _ _ 8 0 _ (by omega) (by omega) ?_
      rw [bytesOf_drop s i (by omega), List.foldl_cons]
      have hw : wrap64 ((i : Int) + 1) = ((i + 1 : Nat) : Int) := by rw [w64 (by omega) (by omega)]; omega
      rw [hw]
      exact ih (i + 1) _ (by omega)
theorem sum_ev (s : ByteArray) (hs : s.size ≤ 9223372036854775806) : Ev (fun k => frame_sum.f k s) (crcI (bytesOf s)) := by
  have h := sum_l0 s hs s.size 0 4294967295 (by omega)
  exact h
theorem crc_range (l : List Int) : 0 ≤ crcI l ∧ crcI l < 4294967296 := bits_u32 _ _ _

/-! numbers as bytes -/
theorem low_l0 (m : Nat) (hm : m ≤ 1000) (n : Nat) : ∀ (x : Int) (l : List Int) (j : Int), j + n = m → 0 ≤ j → l.length = j → Ev (fun k => frame_low.l0 k x l (m : Int) j) (l ++ lowL n x) := by
  induction n with
  | zero =>
    intro x l j hj h0 hl
    refine Ev.step (f := fun _ => some l) (fun k => ?_) (by simp only [lowL, List.append_nil]; exact Ev.now _)
    simp only [frame_low.l0]
    rw [if_neg (by omega)]
  | succ n ih =>
    intro x l j hj h0 hl
    have hw : wrap64 (j + 1) = j + 1 := w64 (by omega) (by omega)
    refine Ev.step (f := fun k => frame_low.l0 k (x / 256) (l ++ [x % 256]) (m : Int) (j + 1)) (fun k => ?_) ?_
    · simp only [frame_low.l0]
      rw [if_pos (by omega), if_pos (by omega), hw]
    · have := ih (x / 256) (l ++ [x % 256]) (j + 1) (by omega) (by omega) (by simp only [List.length_append, List.length_singleton]; omega)
      simp only [List.append_assoc, List.singleton_append] at this
      exact this
theorem low_ev (x : Int) (m : Nat) (hm : m ≤ 1000) : Ev (fun k => frame_low.f k x (m : Int)) (lowL m x) := by
  have := low_l0 m hm m x [] 0 (by omega) (by omega) rfl
  exact this
/-! a frame -/
def headL (s : ByteArray) : List Int := lowL 2 ((s.size : Int) % 4294967296) ++ bytesOf s
def frameOf (s : ByteArray) : ByteArray := strOfNums (headL s ++ lowL 4 (crcI (headL s)))
def putF (s : ByteArray) : ByteArray × Int := if (s.size : Int) > 8192 then (⟨#[]⟩, 1600) else (frameOf s, 0)
theorem headL_range (s : ByteArray) : ∀ x ∈ headL s, 0 ≤ x ∧ x < 256 := by
  intro x hx
  rcases List.mem_append.1 hx with h | h
  · exact lowL_range _ _ _ h
  · exact bytesOf_range _ _ h
theorem headL_length (s : ByteArray) : (headL s).length = 2 + s.size := by
  unfold headL
  rw [List.length_append, lowL_length, bytesOf_length]
theorem put_ev (s : ByteArray) : Ev (fun k => frame_Put.f k s) (putF s) := by
  by_cases c : (s.size : Int) > 8192
  · refine Ev.congr (fun k => ?_) (Ev.now _)
    unfold frame_Put.f putF
    rw [if_pos c, if_pos c]
  · have h1 := low_ev (((s.size : Int)) % 4294967296) 2 (by omega)
    have h2 : Ev (fun k => frame_sum.f k (strOfNums (headL s))) (crcI (headL s)) := by
      have := sum_ev (strOfNums (headL s)) (by rw [size_strOfNums, headL_length]; omega)
      rwa [bytesOf_strOfNums _ (headL_range s)] at this
    have h3 := low_ev (crcI (headL s)) 4 (by omega)
    refine Ev.congr (f := fun k => (frame_low.f k (((s.size : Int)) % 4294967296) 2).bind fun t104 => (if t104.length + s.size < 140737488355328 then ((some (t104 ++ bytesOf s : List Int)).bind fun y107 => ((frame_sum.f k (strOfNums y107)).bind fun t110 => ((frame_low.f k t110 4).bind fun t111 => (if y107.length + t111.length < 140737488355328 then (some (strOfNums (y107 ++ t111), 0)) else (none))))) else (none))) (fun k => ?_) ?_
    · unfold frame_Put.f
      rw [if_neg c]
    · refine Ev.bind h1 ?_
      have e2 : (lowL 2 ((s.size : Int) % 4294967296)).length + s.size < 140737488355328 := by rw [lowL_length]; omega
      simp only [if_pos e2, Option.bind_some]
      refine Ev.bind h2 (Ev.bind h3 ?_)
      rw [if_pos (by rw [lowL_length]; have := headL_length s; unfold headL at this; omega)]
      unfold putF
      rw [if_neg c]
      exact Ev.now _
def badF : ByteArray × Int × Int := (⟨#[]⟩, 0, 1600)
def manyAt (t : ByteArray) (at_ : Int) : Int := bt t at_ + 256 * bt t (at_ + 1)
def partOf (t : ByteArray) (at_ : Int) : ByteArray := t.extract (at_ + 2).toNat (at_ + 2 + manyAt t at_).toNat
def wholeOf (t : ByteArray) (at_ : Int) : ByteArray := t.extract at_.toNat (at_ + 6 + manyAt t at_).toNat
def getF (t : ByteArray) (at_ : Int) : ByteArray × Int × Int :=
  if at_ < 0 ∨ at_ > (t.size : Int) ∨ (t.size : Int) - at_ < 6 then badF
  else if manyAt t at_ > (t.size : Int) - at_ - 6 ∨ manyAt t at_ > 8192 then badF
  else if frameOf (partOf t at_) = wholeOf t at_ then (partOf t at_, at_ + 6 + manyAt t at_, 0) else badF
theorem get_bad (t : ByteArray) (at_ : Int) : Ev (fun k => frame_Get.j0 k t at_ true) badF := by
  refine Ev.step (f := fun _ => some badF) (fun k => ?_) (Ev.now _)
  simp only [frame_Get.j0]
  rfl
theorem putF_snd (s : ByteArray) : (putF s).2 = if (s.size : Int) > 8192 then 1600 else 0 := by unfold putF; split <;> rfl
theorem get_ev (t : ByteArray) (at_ : Int) (ht : t.size ≤ 4611686018427387904) (h0 : -9223372036854775808 ≤ at_) (h1 : at_ ≤ 9223372036854775807) : Ev (fun k => frame_Get.f k t at_) (getF t at_) := by
  by_cases c1 : at_ < 0
  · refine Ev.congr (fun k => ?_) (show Ev (fun k => frame_Get.j0 k t at_ true) (getF t at_) from ?_)
    · unfold frame_Get.f; rw [if_pos c1]
    · unfold getF; rw [if_pos (.inl c1)]; exact get_bad t at_
  by_cases c2 : at_ > (t.size : Int)
  · refine Ev.congr (fun k => ?_) (show Ev (fun k => frame_Get.j0 k t at_ true) (getF t at_) from ?_)
    · unfold frame_Get.f; rw [if_neg c1, if_pos c2]
    · unfold getF; rw [if_pos (.inr (.inl c2))]; exact get_bad t at_
  have hS1 : wrap64 ((t.size : Int) - at_) = (t.size : Int) - at_ := w64 (by omega) (by omega)
  by_cases c3 : (t.size : Int) - at_ < 6
  · refine Ev.congr (fun k => ?_) (show Ev (fun k => frame_Get.j0 k t at_ true) (getF t at_) from ?_)
    · unfold frame_Get.f; rw [if_neg c1, if_neg c2, hS1, decide_eq_true c3]
    · unfold getF; rw [if_pos (.inr (.inr c3))]; exact get_bad t at_
  refine Ev.congr (f := fun k => frame_Get.j0 k t at_ false) (fun k => ?_) ?_
  · unfold frame_Get.f; rw [if_neg c1, if_neg c2, hS1, decide_eq_false c3]
  have b0 := bt_range t at_
  have b1 := bt_range t (at_ + 1)
  have hW1 : wrap64 (at_ + 1) = at_ + 1 := w64 (by omega) (by omega)
  have hW2 : wrap64 (at_ + 2) = at_ + 2 := w64 (by omega) (by omega)
  have hB0 : wrap64 (bt t at_) = bt t at_ := w64 (by omega) (by omega)
  have hB1 : wrap64 (bt t (at_ + 1)) = bt t (at_ + 1) := w64 (by omega) (by omega)
  have hM1 : wrap64 (256 * bt t (at_ + 1)) = 256 * bt t (at_ + 1) := w64 (by omega) (by omega)
  have hmb : 0 ≤ manyAt t at_ ∧ manyAt t at_ ≤ 65535 := by unfold manyAt; omega
  have hM : wrap64 (manyAt t at_) = manyAt t at_ := w64 (by omega) (by omega)
  have hS2 : wrap64 ((t.size : Int) - at_ - 2) = (t.size : Int) - at_ - 2 := w64 (by omega) (by omega)
  have hS3 : wrap64 ((t.size : Int) - at_ - 2 - 4) = (t.size : Int) - at_ - 2 - 4 := w64 (by omega) (by omega)
  have hE : wrap64 (at_ + 2 + manyAt t at_) = at_ + 2 + manyAt t at_ := w64 (by omega) (by omega)
  have hE4 : wrap64 (at_ + 2 + manyAt t at_ + 4) = at_ + 2 + manyAt t at_ + 4 := w64 (by omega) (by omega)
  have hg : getF t at_ = if manyAt t at_ > (t.size : Int) - at_ - 6 ∨ manyAt t at_ > 8192 then badF
      else if frameOf (partOf t at_) = wholeOf t at_ then (partOf t at_, at_ + 6 + manyAt t at_, 0) else badF := by
    unfold getF; rw [if_neg (by omega)]
  have hm : bt t at_ + 256 * bt t (at_ + 1) = manyAt t at_ := rfl
  rw [hg]
  by_cases c4 : manyAt t at_ > (t.size : Int) - at_ - 2 - 4
  · refine Ev.step (f := fun _ => some badF) (fun k => ?_) ?_
    · simp only [frame_Get.j0, hW1, hW2, hB0, hB1, hM1, hM, hS1, hS2, hS3, hE, hE4, hm]
      rw [if_neg (by decide), if_pos (by omega), if_pos (by omega), if_pos (by omega), if_pos (by omega), if_pos c4]
      rfl
    · rw [if_pos (.inl (by omega))]; exact Ev.now _
  refine Ev.step (f := fun k => (frame_Put.f k (partOf t at_)).bind fun b => if b.2 = 0 then (if b.1.toList = (wholeOf t at_).toList then some (partOf t at_, at_ + 6 + manyAt t at_, 0) else some badF) else some badF) (fun k => ?_) ?_
  · have e6 : at_ + 2 + manyAt t at_ + 4 = at_ + 6 + manyAt t at_ := by omega
    simp only [frame_Get.j0, hW1, hW2, hB0, hB1, hM1, hM, hS1, hS2, hS3, hE, hE4, hm]
    rw [if_neg (by decide), if_pos (by omega), if_pos (by omega), if_pos (by omega), if_pos (by omega), if_neg c4, if_pos (by omega), if_pos (by omega), if_pos (by omega)]
    have hA : at_ ≤ at_ + 6 + manyAt t at_ := by omega
    have hA2 : at_ + 6 + manyAt t at_ ≤ (t.size : Int) := by omega
    simp only [e6, if_pos hA, if_pos hA2]
    rfl
  · refine Ev.bind (put_ev (partOf t at_)) ?_
    have hs : ((partOf t at_).size : Int) = manyAt t at_ := by
      unfold partOf
      rw [size_extract _ _ _ (by omega)]
      omega
    by_cases c5 : manyAt t at_ > 8192
    · rw [if_pos (show manyAt t at_ > (t.size : Int) - at_ - 6 ∨ manyAt t at_ > 8192 from .inr c5)]
      have e : (putF (partOf t at_)).2 = 1600 := by rw [putF_snd, hs, if_pos c5]
      rw [e, if_neg (by decide)]
      exact Ev.now _
    · rw [if_neg (show ¬ (manyAt t at_ > (t.size : Int) - at_ - 6 ∨ manyAt t at_ > 8192) from by omega)]
      have e : putF (partOf t at_) = (frameOf (partOf t at_), 0) := by unfold putF; rw [hs, if_neg c5]
      rw [e, if_pos rfl]
      by_cases c6 : frameOf (partOf t at_) = wholeOf t at_
      · rw [if_pos c6, if_pos (toList_inj.2 c6)]; exact Ev.now _
      · rw [if_neg c6, if_neg (fun h => c6 (toList_inj.1 h))]; exact Ev.now _
theorem frame_bytes (s : ByteArray) : bytesOf (frameOf s) = headL s ++ lowL 4 (crcI (headL s)) := by
  unfold frameOf
  refine bytesOf_strOfNums _ (fun x hx => ?_)
  rcases List.mem_append.1 hx with h | h
  · exact headL_range _ _ h
  · exact lowL_range _ _ _ h
theorem frame_size (s : ByteArray) : (frameOf s).size = 6 + s.size := by
  rw [← bytesOf_length, frame_bytes, List.length_append, lowL_length, headL_length]
  omega
theorem get_frame (a s b : ByteArray) (hs : s.size ≤ 8192) : getF ((a ++ frameOf s) ++ b) (a.size : Int) = (s, (a.size : Int) + (frameOf s).size, 0) := by
  have hB : bytesOf ((a ++ frameOf s) ++ b) = bytesOf a ++ (headL s ++ lowL 4 (crcI (headL s)) ++ bytesOf b) := by
    rw [bytesOf_append, bytesOf_append, frame_bytes, List.append_assoc, List.append_assoc]
  have hz : ((a ++ frameOf s) ++ b).size = a.size + (6 + s.size) + b.size := by
    rw [ByteArray.size_append, ByteArray.size_append, frame_size]
  have hh : headL s = [(s.size : Int) % 4294967296 % 256, (s.size : Int) % 4294967296 / 256 % 256] ++ bytesOf s := rfl
  have h0 : bt ((a ++ frameOf s) ++ b) (a.size : Int) = (s.size : Int) % 256 := by
    rw [bt_get, hB, List.getD_eq_getElem?_getD, List.getElem?_append_right (by rw [bytesOf_length]; omega), bytesOf_length, Nat.sub_self, hh]
    simp only [List.cons_append, List.getElem?_cons_zero, Option.getD_some]
    omega
  have h1 : bt ((a ++ frameOf s) ++ b) ((a.size : Int) + 1) = (s.size : Int) / 256 := by
    have e : ((a.size : Int) + 1) = ((a.size + 1 : Nat) : Int) := by omega
    rw [e, bt_get, hB, List.getD_eq_getElem?_getD, List.getElem?_append_right (by rw [bytesOf_length]; omega), bytesOf_length, show a.size + 1 - a.size = 1 from by omega, hh]
    simp only [List.cons_append, List.getElem?_cons_succ, List.getElem?_cons_zero, Option.getD_some]
    omega
  have hm : manyAt ((a ++ frameOf s) ++ b) (a.size : Int) = (s.size : Int) := by
    unfold manyAt; rw [h0, h1]; omega
  have hp : partOf ((a ++ frameOf s) ++ b) (a.size : Int) = s := by
    apply bytesOf_inj
    unfold partOf
    rw [hm, bytesOf_extract, hB]
    have e1 : ((a.size : Int) + 2).toNat = (bytesOf a).length + 2 := by rw [bytesOf_length]; omega
    have e2 : ((a.size : Int) + 2 + (s.size : Int)).toNat = (bytesOf a).length + (2 + s.size) := by rw [bytesOf_length]; omega
    rw [e1, e2, List.take_length_add_append, List.drop_length_add_append, hh, List.append_assoc, List.append_assoc]
    rw [show 2 + s.size = ([(s.size : Int) % 4294967296 % 256, (s.size : Int) % 4294967296 / 256 % 256]).length + s.size from by simp]
    rw [List.take_length_add_append]
    rw [show (2 : Nat) = ([(s.size : Int) % 4294967296 % 256, (s.size : Int) % 4294967296 / 256 % 256]).length from rfl]
    rw [List.drop_left, List.take_append_of_le_length (by rw [bytesOf_length]; omega), List.take_of_length_le (by rw [bytesOf_length]; omega)]
  have hw : wholeOf ((a ++ frameOf s) ++ b) (a.size : Int) = frameOf s := by
    apply bytesOf_inj
    unfold wholeOf
    rw [hm, bytesOf_extract, bytesOf_append, bytesOf_append, List.append_assoc]
    have e1 : ((a.size : Int)).toNat = (bytesOf a).length := by rw [bytesOf_length]; omega
    have e2 : ((a.size : Int) + 6 + (s.size : Int)).toNat = (bytesOf a).length + (bytesOf (frameOf s)).length := by rw [bytesOf_length, bytesOf_length, frame_size]; omega
    rw [e1, e2, List.take_length_add_append, List.drop_left, List.take_left]
  unfold getF
  rw [hz, hm, hp, hw, if_neg (by omega), if_neg (by omega), if_pos rfl, frame_size]
  congr 2
  omega

theorem evp {α : Type} {c : Prop} [Decidable c] {f g : Nat → Option α} {r : α} (hc : c) (h : Ev f r) : Ev (fun n => if c then f n else g n) r :=
  Ev.congr (fun k => if_pos hc) h
theorem evn {α : Type} {c : Prop} [Decidable c] {f g : Nat → Option α} {r : α} (hc : ¬ c) (h : Ev g r) : Ev (fun n => if c then f n else g n) r :=
  Ev.congr (fun k => if_neg hc) h
theorem putF_small (s : ByteArray) (h : s.size ≤ 8192) : putF s = (frameOf s, 0) := by unfold putF; rw [if_neg (by omega)]
theorem putF_great (s : ByteArray) (h : 8192 < s.size) : putF s = (⟨#[]⟩, 1600) := by unfold putF; rw [if_pos (by omega)]
theorem get_frame0 (s : ByteArray) (hs : s.size ≤ 8192) : getF (frameOf s) 0 = (s, ((frameOf s).size : Int), 0) := by
  have h := get_frame ⟨#[]⟩ s ⟨#[]⟩ hs
  have e1 : (⟨#[]⟩ : ByteArray) ++ frameOf s ++ ⟨#[]⟩ = frameOf s := by
    apply bytesOf_inj
    rw [bytesOf_append, bytesOf_append]
    show [] ++ bytesOf (frameOf s) ++ [] = _
    simp
  rw [e1] at h
  have e2 : (((⟨#[]⟩ : ByteArray).size : Nat) : Int) = 0 := rfl
  rw [e2, Int.zero_add] at h
  exact h
theorem frame_prefix (a b : ByteArray) (ha : a.size ≤ 8192) (hb : b.size ≤ 8192) (n : Nat) (hn : n = min (frameOf a).size (frameOf b).size) (h : (frameOf a).extract 0 n = (frameOf b).extract 0 n) : a = b := by
  have za := frame_size a
  have zb := frame_size b
  have h' : ((bytesOf (frameOf a)).take n) = ((bytesOf (frameOf b)).take n) := by
    have := congrArg bytesOf h
    rw [bytesOf_extract, bytesOf_extract] at this
    simpa using this
  have hha : headL a = [(a.size : Int) % 4294967296 % 256, (a.size : Int) % 4294967296 / 256 % 256] ++ bytesOf a := rfl
  have hhb : headL b = [(b.size : Int) % 4294967296 % 256, (b.size : Int) % 4294967296 / 256 % 256] ++ bytesOf b := rfl
  have e0 := congrArg (fun l => l[0]?) h'
  have e1 := congrArg (fun l => l[1]?) h'
  simp only [List.getElem?_take_of_lt (show 0 < n by omega), List.getElem?_take_of_lt (show 1 < n by omega), frame_bytes, hha, hhb, List.cons_append, List.getElem?_cons_zero, List.getElem?_cons_succ, Option.some.injEq] at e0 e1
  have es : a.size = b.size := by omega
  have e : frameOf a = frameOf b := by
    apply bytesOf_inj
    rw [List.take_of_length_le (by rw [bytesOf_length]; omega), List.take_of_length_le (by rw [bytesOf_length]; omega)] at h'
    exact h'
  have ga := get_frame0 a ha
  have gb := get_frame0 b hb
  rw [e, gb] at ga
  exact (Prod.mk.inj ga).1.symm
def recS (x : Nd) : Bool := eqS x && (decide (-1 ≤ x.f1) && decide (x.f1 < 512))
def textL (s : ByteArray) : List Int := lowL 2 (s.size : Int) ++ bytesOf s
def recL (x : Nd) : List Int := (lowL 1 x.f0 ++ (lowL 2 (x.f1 + 1) ++ lowL 1 (x.f2.length : Int))) ++ (x.f2.flatMap textL ++ textL x.f3)
def recOf (x : Nd) : ByteArray := strOfNums (recL x)
def putR (x : Nd) : ByteArray × Int := if recS x = true then (recOf x, 0) else (⟨#[]⟩, 1500)
theorem numLE_low : ∀ (n : Nat) (x : Int), 0 ≤ x → x < 256 ^ n → numLE (lowL n x) = x
  | 0, x, h0, h1 => by rw [Int.pow_zero] at h1; rw [lowL, numLE]; omega
  | n + 1, x, h0, h1 => by
    rw [lowL, numLE, numLE_low n (x / 256) (by omega) (by rw [Int.pow_succ] at h1; omega)]
    omega
theorem numLE_range : ∀ L : List Int, (∀ y ∈ L, 0 ≤ y ∧ y < 256) → 0 ≤ numLE L ∧ numLE L < 256 ^ L.length
  | [], _ => ⟨Int.le_refl _, by decide⟩
  | b :: t, h => by
    obtain ⟨h0, h1⟩ := numLE_range t (fun y hy => h y (List.mem_cons_of_mem _ hy))
    have hb := h b (List.mem_cons_self ..)
    rw [numLE, List.length_cons, Int.pow_succ]
    omega
def textP (L : List Int) : ByteArray × List Int := (strOfNums ((L.drop 2).take (numLE (L.take 2)).toNat), (L.drop 2).drop (numLE (L.take 2)).toNat)
def argsP : Nat → List Int → List ByteArray × List Int
  | 0, L => ([], L)
  | n + 1, L => ((textP L).1 :: (argsP n (textP L).2).1, (argsP n (textP L).2).2)
def manyP (L : List Int) : Int := if numLE ((L.drop 3).take 1) < 3 then numLE ((L.drop 3).take 1) else 3
def getP (L : List Int) : Nd := ⟨numLE (L.take 1), numLE ((L.drop 1).take 2) - 1, (argsP (manyP L).toNat (L.drop 4)).1, (textP (argsP (manyP L).toNat (L.drop 4)).2).1⟩
theorem textP_text (s : ByteArray) (hs : s.size < 65536) (R : List Int) : textP (textL s ++ R) = (s, R) := by
  have hl : (lowL 2 (s.size : Int)).length = 2 := lowL_length _ _
  have e1 : (textL s ++ R).take 2 = lowL 2 (s.size : Int) := by
    unfold textL
    rw [List.append_assoc, List.take_append_of_le_length (by omega), List.take_of_length_le (by omega)]
  have e2 : (textL s ++ R).drop 2 = bytesOf s ++ R := by
    unfold textL
    rw [List.append_assoc, List.drop_append_of_le_length (by omega), List.drop_eq_nil_of_le (by omega), List.nil_append]
  have e3 : (numLE (lowL 2 (s.size : Int))).toNat = (bytesOf s).length := by
    rw [numLE_low 2 _ (by omega) (by show (s.size : Int) < 65536; omega), bytesOf_length]; rfl
  unfold textP
  rw [e1, e2, e3, List.take_append_of_le_length (Nat.le_refl _), List.take_of_length_le (Nat.le_refl _), List.drop_append_of_le_length (Nat.le_refl _), List.drop_eq_nil_of_le (Nat.le_refl _), List.nil_append, strOfNums_bytesOf]
theorem argsP_args : ∀ (l : List ByteArray) (R : List Int), (∀ s ∈ l, s.size < 65536) → argsP l.length (l.flatMap textL ++ R) = (l, R)
  | [], R, _ => rfl
  | s :: l, R, h => by
    rw [List.flatMap_cons, List.append_assoc, List.length_cons, argsP, textP_text s (h s (List.mem_cons_self ..)), argsP_args l R (fun x hx => h x (List.mem_cons_of_mem _ hx))]
theorem recS_spec {x : Nd} (h : recS x = true) : eqS x = true ∧ -1 ≤ x.f1 ∧ x.f1 < 512 := by
  unfold recS at h
  rw [Bool.and_eq_true, Bool.and_eq_true] at h
  exact ⟨h.1, of_decide_eq_true h.2.1, of_decide_eq_true h.2.2⟩
theorem eqS_spec {x : Nd} (h : eqS x = true) : 0 ≤ x.f0 ∧ x.f0 < 8 ∧ x.f2.length ≤ 3 ∧ (∀ s ∈ x.f2, mayS s = true) ∧ mayS x.f3 = true := by
  unfold eqS at h
  rw [Bool.and_eq_true, Bool.and_eq_true, Bool.and_eq_true, Bool.and_eq_true] at h
  exact ⟨of_decide_eq_true h.1.1.1.1, of_decide_eq_true h.1.1.1.2, of_decide_eq_true h.1.1.2, fun s hs => List.all_eq_true.1 h.1.2 s hs, h.2⟩
theorem mayS_size {s : ByteArray} (h : mayS s = true) : s.size ≤ 1024 := by
  unfold mayS cutS cutL at h
  have h := of_decide_eq_true h
  by_cases c : s.data.toList.length > 1024
  · rw [if_pos c] at h; exact absurd h (by decide)
  · have e : s.data.toList.length = s.size := by rw [Array.length_toList]; rfl
    omega
theorem recL_head (x : Nd) (R : List Int) : (recL x ++ R).take 1 = lowL 1 x.f0 ∧ ((recL x ++ R).drop 1).take 2 = lowL 2 (x.f1 + 1) ∧ ((recL x ++ R).drop 3).take 1 = lowL 1 (x.f2.length : Int) ∧ (recL x ++ R).drop 4 = x.f2.flatMap textL ++ (textL x.f3 ++ R) := by
  unfold recL
  refine ⟨rfl, rfl, rfl, ?_⟩
  show (x.f2.flatMap textL ++ textL x.f3) ++ R = _
  rw [List.append_assoc]
theorem getP_app (x : Nd) (h : recS x = true) (R : List Int) : getP (recL x ++ R) = x := by
  obtain ⟨h1, h2, h3, h4⟩ := recL_head x R
  obtain ⟨e, p0, p1⟩ := recS_spec h
  obtain ⟨q0, q1, q2, q3, q4⟩ := eqS_spec e
  have hm : manyP (recL x ++ R) = (x.f2.length : Int) := by
    unfold manyP
    rw [h3, numLE_low 1 _ (by omega) (by show (x.f2.length : Int) < 256; omega)]
    split <;> omega
  have ha := argsP_args x.f2 (textL x.f3 ++ R) (fun s hs => by have := mayS_size (q3 s hs); omega)
  have ht := textP_text x.f3 (by have := mayS_size q4; omega) R
  unfold getP
  rw [hm, h1, h2, h4, Int.toNat_natCast, ha, ht, numLE_low 1 _ q0 (by show x.f0 < 256; omega), numLE_low 2 _ (by omega) (by show x.f1 + 1 < 65536; omega), Int.add_sub_cancel]
theorem getP_rec (x : Nd) (h : recS x = true) : getP (recL x) = x := by
  have := getP_app x h []
  rw [List.append_nil] at this
  exact this
theorem recL_range (x : Nd) : ∀ y ∈ recL x, 0 ≤ y ∧ y < 256 := by
  have ht : ∀ s : ByteArray, ∀ y ∈ textL s, 0 ≤ y ∧ y < 256 := fun s y hy => by
    rcases List.mem_append.1 hy with hy | hy
    · exact lowL_range _ _ y hy
    · exact bytesOf_range _ y hy
  intro y hy
  unfold recL at hy
  rcases List.mem_append.1 hy with hy | hy
  · rcases List.mem_append.1 hy with hy | hy
    · exact lowL_range _ _ y hy
    · rcases List.mem_append.1 hy with hy | hy
      · exact lowL_range _ _ y hy
      · exact lowL_range _ _ y hy
  · rcases List.mem_append.1 hy with hy | hy
    · obtain ⟨s, _, hs⟩ := List.mem_flatMap.1 hy
      exact ht s y hs
    · exact ht _ y hy
theorem recOf_bytes (x : Nd) : bytesOf (recOf x) = recL x := bytesOf_strOfNums _ (recL_range x)
def getR (s : ByteArray) : Nd × Int := if recS (getP (bytesOf s)) = true ∧ recOf (getP (bytesOf s)) = s then (getP (bytesOf s), 0) else (⟨0, 0, [], ⟨#[]⟩⟩, 1500)
theorem getR_of {s : ByteArray} {x : Nd} (h : recS x = true) (hs : recOf x = s) : getR s = (x, 0) := by
  have e : getP (bytesOf s) = x := by rw [← hs, recOf_bytes, getP_rec x h]
  unfold getR
  rw [e, if_pos ⟨h, hs⟩]
theorem getR_not {s : ByteArray} (h : ∀ x, recS x = true → recOf x ≠ s) : getR s = (⟨0, 0, [], ⟨#[]⟩⟩, 1500) := by
  unfold getR
  rw [if_neg (fun hh => h _ hh.1 hh.2)]
/-- a node's frame -/
def frec (x : Nd) : ByteArray := frameOf (recOf x)
/-- a trail's bytes -/
def fileB : List Nd → ByteArray
  | [] => ⟨#[]⟩
  | x :: xs => frec x ++ fileB xs
theorem nil_app (b : ByteArray) : (⟨#[]⟩ : ByteArray) ++ b = b := by
  apply bytesOf_inj
  rw [bytesOf_append]; rfl
theorem app_nil (b : ByteArray) : b ++ (⟨#[]⟩ : ByteArray) = b := by
  apply bytesOf_inj
  rw [bytesOf_append]
  show bytesOf b ++ [] = _
  rw [List.append_nil]
theorem app_assoc (a b c : ByteArray) : (a ++ b) ++ c = a ++ (b ++ c) := by
  apply bytesOf_inj
  rw [bytesOf_append, bytesOf_append, bytesOf_append, bytesOf_append, List.append_assoc]
theorem app_cancel {a b c : ByteArray} (h : a ++ b = a ++ c) : b = c := by
  apply bytesOf_inj
  have := congrArg bytesOf h
  rw [bytesOf_append, bytesOf_append] at this
  exact List.append_cancel_left this
theorem app_inj {a b c d : ByteArray} (h : a ++ b = c ++ d) (hs : a.size = c.size) : a = c ∧ b = d := by
  have := congrArg bytesOf h
  rw [bytesOf_append, bytesOf_append] at this
  have h2 := List.append_inj this (by rw [bytesOf_length, bytesOf_length, hs])
  exact ⟨bytesOf_inj h2.1, bytesOf_inj h2.2⟩
theorem fileB_app (xs ys : List Nd) : fileB (xs ++ ys) = fileB xs ++ fileB ys := by
  induction xs with
  | nil => rw [List.nil_append, fileB, nil_app]
  | cons x xs ih => rw [List.cons_append, fileB, fileB, ih, app_assoc]
theorem fileB_one (x : Nd) : fileB [x] = frec x := by rw [fileB, fileB, app_nil]
theorem recL_size {x : Nd} (h : recS x = true) : (recL x).length ≤ 8192 := by
  have a := eqS_spec (recS_spec h).1
  have e : ∀ l : List ByteArray, (∀ s ∈ l, mayS s = true) → (l.flatMap textL).length ≤ 1026 * l.length := by
    intro l
    induction l with
    | nil => intro _; exact Nat.le_refl _
    | cons s l ih =>
      intro hl
      have h1 := mayS_size (hl s List.mem_cons_self)
      have h2 := ih (fun t ht => hl t (List.mem_cons_of_mem _ ht))
      rw [List.flatMap_cons, List.length_append, List.length_cons]
      have h3 : (textL s).length = 2 + s.size := by unfold textL; rw [List.length_append, lowL_length, bytesOf_length]
      omega
  have h1 := e x.f2 a.2.2.2.1
  have h2 := mayS_size a.2.2.2.2
  unfold recL
  have h3 : (textL x.f3).length = 2 + x.f3.size := by unfold textL; rw [List.length_append, lowL_length, bytesOf_length]
  simp only [List.length_append, lowL_length, h3]
  have := a.2.2.1
  omega
theorem recOf_size {x : Nd} (h : recS x = true) : (recOf x).size ≤ 8192 := by
  have := recL_size h
  unfold recOf
  rw [size_strOfNums]; exact this
theorem frec_size (x : Nd) : (frec x).size = 6 + (recOf x).size := frame_size _
theorem recS_of_next {x : Nd} {i : Int} (h : nextS x i = true) : recS x = true := by
  unfold nextS at h
  unfold recS
  simp only [Bool.and_eq_true, Bool.or_eq_true, decide_eq_true_iff] at h ⊢
  obtain ⟨⟨h1, h2⟩, h3⟩ := h
  exact ⟨h3, by omega, by omega⟩
/-- one node more -/
def stepF (t : ByteArray) (m : Nat) (at_ : Int) : Option (Nd × Int) :=
  if (getF t at_).2.2 = 0 then (if (getR (getF t at_).1).2 = 0 then (if nextS (getR (getF t at_).1).1 (m : Int) = true then some ((getR (getF t at_).1).1, (getF t at_).2.1) else none) else none) else none
theorem stepF_some (a r : ByteArray) (x : Nd) (m : Nat) (h : nextS x (m : Int) = true) : stepF (a ++ (frec x ++ r)) m (a.size : Int) = some (x, (a.size : Int) + (frec x).size) := by
  have hr := recS_of_next h
  have e := get_frame a (recOf x) r (recOf_size hr)
  rw [app_assoc] at e
  have e2 := getR_of hr rfl
  unfold stepF
  show (if (getF (a ++ (frameOf (recOf x) ++ r)) a.size).2.2 = 0 then _ else _) = _
  simp only [frec, e, e2, if_pos, h]
theorem getF_spec {t : ByteArray} {at_ : Int} {s : ByteArray} {to_ : Int} (h : getF t at_ = (s, to_, 0)) : 0 ≤ at_ ∧ at_ ≤ (t.size : Int) ∧ s.size ≤ 8192 ∧ to_ = at_ + (frameOf s).size ∧ to_ ≤ (t.size : Int) ∧ t.extract at_.toNat to_.toNat = frameOf s := by
  unfold getF at h
  have hne : badF ≠ (s, to_, 0) := by unfold badF; intro hh; have := (Prod.mk.inj (Prod.mk.inj hh).2).2; omega
  by_cases c1 : at_ < 0 ∨ at_ > (t.size : Int) ∨ (t.size : Int) - at_ < 6
  · rw [if_pos c1] at h; exact absurd h hne
  rw [if_neg c1] at h
  by_cases c2 : manyAt t at_ > (t.size : Int) - at_ - 6 ∨ manyAt t at_ > 8192
  · rw [if_pos c2] at h; exact absurd h hne
  rw [if_neg c2] at h
  by_cases c3 : frameOf (partOf t at_) = wholeOf t at_
  · rw [if_pos c3] at h
    obtain ⟨rfl, h2⟩ := Prod.mk.inj h
    have h3 := (Prod.mk.inj h2).1
    have m0 : 0 ≤ manyAt t at_ := by
      unfold manyAt
      have h1 := (bt_range t at_).1
      have h2 := (bt_range t (at_ + 1)).1
      omega
    have hps : ((partOf t at_).size : Int) = manyAt t at_ := by
      unfold partOf
      rw [size_extract _ _ _ (by omega)]
      omega
    have hfs := frame_size (partOf t at_)
    refine ⟨by omega, by omega, by omega, by omega, by omega, ?_⟩
    rw [c3]
    unfold wholeOf
    rw [← h3]
  · rw [if_neg c3] at h; exact absurd h hne
theorem split_at (t : ByteArray) (a b : Nat) (h : a ≤ b) (hb : b ≤ t.size) : t = t.extract 0 a ++ (t.extract a b ++ t.extract b t.size) := by
  apply bytesOf_inj
  rw [bytesOf_append, bytesOf_append, bytesOf_extract, bytesOf_extract, bytesOf_extract]
  have hl := bytesOf_length t
  rw [List.take_of_length_le (Nat.le_of_eq hl), List.drop_zero]
  have e : ((bytesOf t).take b).drop a ++ (bytesOf t).drop b = (bytesOf t).drop a := by
    have h1 : (bytesOf t).drop a = ((bytesOf t).take b ++ (bytesOf t).drop b).drop a := by rw [List.take_append_drop]
    rw [h1, List.drop_append_of_le_length (by rw [List.length_take]; omega)]
  rw [e, List.take_append_drop]
theorem stepF_of {t a r : ByteArray} {m : Nat} {x : Nd} {to_ : Int} (ht : t = a ++ r) (h : stepF t m (a.size : Int) = some (x, to_)) : nextS x (m : Int) = true ∧ to_ = (a.size : Int) + (frec x).size ∧ ∃ r', r = frec x ++ r' := by
  unfold stepF at h
  by_cases c1 : (getF t (a.size : Int)).2.2 = 0
  case neg => rw [if_neg c1] at h; cases h
  rw [if_pos c1] at h
  by_cases c2 : (getR (getF t (a.size : Int)).1).2 = 0
  case neg => rw [if_neg c2] at h; cases h
  rw [if_pos c2] at h
  by_cases c3 : nextS (getR (getF t (a.size : Int)).1).1 (m : Int) = true
  case neg => rw [if_neg c3] at h; cases h
  rw [if_pos c3] at h
  obtain ⟨hx, hto⟩ := Prod.mk.inj (Option.some.inj h)
  rw [hx] at c3
  have hg : getF t (a.size : Int) = ((getF t (a.size : Int)).1, (getF t (a.size : Int)).2.1, 0) := by rw [← c1]
  obtain ⟨g0, g1, g2, g3, g4, g5⟩ := getF_spec hg
  have hs : recOf x = (getF t (a.size : Int)).1 := by
    generalize (getF t (a.size : Int)).1 = s at c2 hx
    unfold getR at c2 hx
    by_cases c4 : recS (getP (bytesOf s)) = true ∧ recOf (getP (bytesOf s)) = s
    · rw [if_pos c4] at hx
      rw [← hx]
      exact c4.2
    · rw [if_neg c4] at c2
      exact absurd c2 (by decide)
  rw [← hs] at g3 g5
  rw [hto] at g3 g4 g5
  refine ⟨c3, g3, t.extract to_.toNat t.size, ?_⟩
  have hfr : frameOf (recOf x) = frec x := rfl
  rw [hfr] at g3 g5
  have e := split_at t a.size to_.toNat (by omega) (by omega)
  rw [Int.toNat_natCast] at g5
  rw [g5] at e
  have e2 : t.extract 0 a.size = a := by
    apply bytesOf_inj
    rw [bytesOf_extract, ht, bytesOf_append, List.drop_zero, List.take_append_of_le_length (by rw [bytesOf_length]; omega), List.take_of_length_le (by rw [bytesOf_length]; omega)]
  rw [e2] at e
  exact app_cancel (ht.symm.trans e)
/-- nodes that may stand where they stand -/
def validS (xs : List Nd) : Prop := ∀ (i : Nat) (h : i < xs.length), nextS xs[i] (i : Int) = true
theorem valid_len {xs : List Nd} (h : validS xs) : xs.length ≤ 512 := by
  rcases Nat.lt_or_ge 512 xs.length with c | c
  · exact absurd (nextS_512 (h 512 c)) (by decide)
  · exact c
theorem valid_snoc {xs : List Nd} {x : Nd} (h : validS xs) (hx : nextS x (xs.length : Int) = true) : validS (xs ++ [x]) := by
  intro i hi
  rw [List.length_append, List.length_singleton] at hi
  by_cases c : i < xs.length
  · rw [List.getElem_append_left c]; exact h i c
  · have e : i = xs.length := by omega
    subst e
    rw [List.getElem_append_right (Nat.le_refl _)]
    simpa using hx
theorem valid_left {xs ys : List Nd} (h : validS (xs ++ ys)) : validS xs := by
  intro i hi
  have := h i (by rw [List.length_append]; omega)
  rwa [List.getElem_append_left hi] at this
theorem valid_nil : validS [] := fun i h => absurd h (Nat.not_lt_zero _)
theorem mayT_iff (xs : List Nd) : mayT xs = true ↔ (0 < xs.length ∧ validS xs) := by
  unfold mayT validS
  rw [Bool.and_eq_true, decide_eq_true_iff, List.all_eq_true]
  constructor
  · rintro ⟨h1, h2⟩
    refine ⟨h1, fun i hi => ?_⟩
    have := h2 i (List.mem_range.2 hi)
    rwa [rn_eq xs i hi] at this
  · rintro ⟨h1, h2⟩
    refine ⟨h1, fun i hi => ?_⟩
    rw [List.mem_range] at hi
    rw [rn_eq xs i hi]
    exact h2 i hi
/-- what is loaded -/
def loadK (t : ByteArray) : Nat → List Nd → Int → List Nd × Int
  | 0, out, at_ => (out, at_)
  | k + 1, out, at_ => match stepF t out.length at_ with
    | some p => loadK t k (out ++ [p.1]) p.2
    | none => (out, at_)
def loadS (t : ByteArray) : List Nd × Int := loadK t 513 [] 0
theorem loadK_spec (t : ByteArray) : ∀ (k : Nat) (out : List Nd), k + out.length = 513 → validS out → (∃ r, t = fileB out ++ r) →
    validS (loadK t k out ((fileB out).size : Int)).1 ∧ (loadK t k out ((fileB out).size : Int)).2 = ((fileB (loadK t k out ((fileB out).size : Int)).1).size : Int) ∧ (∃ r, t = fileB (loadK t k out ((fileB out).size : Int)).1 ++ r) ∧ stepF t (loadK t k out ((fileB out).size : Int)).1.length (loadK t k out ((fileB out).size : Int)).2 = none := by
  intro k
  induction k with
  | zero =>
    intro out hk hv _
    have := valid_len hv
    omega
  | succ k ih =>
    intro out hk hv hr
    rw [loadK]
    cases hs : stepF t out.length ((fileB out).size : Int) with
    | none => exact ⟨hv, rfl, hr, hs⟩
    | some p =>
      obtain ⟨x, to_⟩ := p
      obtain ⟨r, hr⟩ := hr
      obtain ⟨h1, h2, r', h3⟩ := stepF_of hr hs
      have e : fileB (out ++ [x]) = fileB out ++ frec x := by rw [fileB_app, fileB_one]
      have e2 : to_ = ((fileB (out ++ [x])).size : Int) := by rw [e, ByteArray.size_append, h2]; omega
      simp only
      rw [e2]
      exact ih (out ++ [x]) (by rw [List.length_append, List.length_singleton]; omega) (valid_snoc hv h1) ⟨r', by rw [e, app_assoc, ← h3]; exact hr⟩
theorem loadS_spec (t : ByteArray) : validS (loadS t).1 ∧ (loadS t).2 = ((fileB (loadS t).1).size : Int) ∧ (∃ r, t = fileB (loadS t).1 ++ r) ∧ stepF t (loadS t).1.length (loadS t).2 = none :=
  loadK_spec t 513 [] rfl valid_nil ⟨t, by rw [fileB, nil_app]⟩
theorem loadK_grow (t : ByteArray) : ∀ (k : Nat) (out : List Nd) (at_ : Int), ∃ zs, (loadK t k out at_).1 = out ++ zs
  | 0, out, _ => ⟨[], (List.append_nil _).symm⟩
  | k + 1, out, at_ => by
    rw [loadK]
    cases stepF t out.length at_ with
    | none => exact ⟨[], (List.append_nil _).symm⟩
    | some p =>
      obtain ⟨zs, h⟩ := loadK_grow t k (out ++ [p.1]) p.2
      exact ⟨p.1 :: zs, by simp only; rw [h, List.append_assoc]; rfl⟩
theorem loadK_through (t : ByteArray) : ∀ (ys : List Nd) (k : Nat) (out : List Nd) (r : ByteArray), validS (out ++ ys) → t = fileB out ++ (fileB ys ++ r) → loadK t (k + ys.length) out ((fileB out).size : Int) = loadK t k (out ++ ys) ((fileB (out ++ ys)).size : Int)
  | [], k, out, r, _, _ => by rw [List.append_nil]; rfl
  | y :: ys, k, out, r, hv, ht => by
    have hn : nextS y (out.length : Int) = true := by
      have := hv out.length (by rw [List.length_append, List.length_cons]; omega)
      rw [List.getElem_append_right (Nat.le_refl _)] at this
      simpa using this
    rw [fileB, app_assoc] at ht
    have hs := stepF_some (fileB out) (fileB ys ++ r) y out.length hn
    rw [← ht] at hs
    have e : fileB (out ++ [y]) = fileB out ++ frec y := by rw [fileB_app, fileB_one]
    rw [List.length_cons, ← Nat.add_assoc, loadK, hs]
    simp only
    have e2 : ((fileB out).size : Int) + (frec y).size = ((fileB (out ++ [y])).size : Int) := by rw [e, ByteArray.size_append]; omega
    rw [e2, loadK_through t ys k (out ++ [y]) r (by rw [List.append_assoc]; exact hv) (by rw [e, app_assoc]; exact ht), List.append_assoc]
    rfl
/-- nodes that stand ahead are all loaded -/
theorem loadS_max {t r : ByteArray} {ys : List Nd} (hv : validS ys) (ht : t = fileB ys ++ r) : ∃ zs, (loadS t).1 = ys ++ zs := by
  have hl := valid_len hv
  have e := loadK_through t ys (513 - ys.length) [] r (by simpa using hv) (by rw [fileB, nil_app]; exact ht)
  rw [Nat.sub_add_cancel (by omega), List.nil_append] at e
  obtain ⟨zs, hz⟩ := loadK_grow t (513 - ys.length) ys ((fileB ys).size : Int)
  exact ⟨zs, by unfold loadS; rw [show ((0 : Int)) = ((fileB []).size : Int) from rfl, e]; exact hz⟩
theorem fileB_pos {x : Nd} {xs : List Nd} : 6 ≤ (fileB (x :: xs)).size := by
  rw [fileB, ByteArray.size_append, frec_size]; omega
theorem loadS_eq {t r : ByteArray} {ys : List Nd} (hv : validS ys) (ht : t = fileB ys ++ r) (hn : stepF t ys.length ((fileB ys).size : Int) = none) : loadS t = (ys, ((fileB ys).size : Int)) := by
  have hl := valid_len hv
  have e := loadK_through t ys (513 - ys.length) [] r (by simpa using hv) (by rw [fileB, nil_app]; exact ht)
  rw [Nat.sub_add_cancel (by omega), List.nil_append] at e
  obtain ⟨j, hj⟩ : ∃ j, 513 - ys.length = j + 1 := ⟨512 - ys.length, by omega⟩
  unfold loadS
  rw [show ((0 : Int)) = ((fileB []).size : Int) from rfl, e, hj, loadK, hn]
theorem stepF_short {t : ByteArray} {m : Nat} {at_ : Int} (h : (t.size : Int) - at_ < 6) : stepF t m at_ = none := by
  have hg : getF t at_ = badF := by unfold getF; exact if_pos (.inr (.inr h))
  unfold stepF
  rw [hg]
  exact if_neg (by decide)
theorem stepF_end {t : ByteArray} {m : Nat} : stepF t m (t.size : Int) = none := stepF_short (by omega)
/-- a file is loaded whole -/
theorem loadS_file {ns : List Nd} (hv : validS ns) : loadS (fileB ns) = (ns, ((fileB ns).size : Int)) :=
  loadS_eq (r := ⟨#[]⟩) hv (app_nil _).symm stepF_end
theorem recLow_l0 (x : Int) (m : Nat) (hm : m ≤ 7) (n : Nat) : ∀ (l : List Int) (j : Nat), j + n = m → l.length = m → (∀ i, i < j → l[i]? = some (x / 256 ^ i % 256)) → Ev (fun k => record_low.l0 k x l (m : Int) (j : Int)) (strOfNums (lowL m x)) := by
  induction n with
  | zero =>
    intro l j hj hl h
    refine Ev.step (f := fun _ => some (strOfNums l)) (fun k => ?_) ?_
    · simp only [record_low.l0]
      rw [if_neg (by omega)]
    · have e : l = lowL m x := by
        apply List.ext_getElem?
        intro i
        by_cases hi : i < m
        · rw [h i (by omega), lowL_get m x i hi]
        · rw [List.getElem?_eq_none (by omega), List.getElem?_eq_none (by rw [lowL_length]; omega)]
      rw [e]
      exact Ev.now _
  | succ n ih =>
    intro l j hj hl h
    have hw : wrap64 ((j : Int) + 1) = ((j + 1 : Nat) : Int) := by rw [w64 (by omega) (by omega)]; omega
    have hw8 : wrap64 (8 * (j : Int)) = 8 * (j : Int) := w64 (by omega) (by omega)
    refine Ev.step (f := fun k => record_low.l0 k x (l.set (j : Int).toNat ((shr .i64 x (8 * (j : Int))) % 256)) (m : Int) ((j + 1 : Nat) : Int)) (fun k => ?_) ?_
    · simp only [record_low.l0]
      rw [if_pos (by omega), hw8, if_pos (by omega), if_pos (by omega), if_pos (by omega), hw]
    · refine ih _ (j + 1) (by omega) (by rw [List.length_set]; exact hl) ?_
      intro i hi
      rw [Int.toNat_natCast]
      by_cases e : i = j
      · subst e
        rw [List.getElem?_set_self (by omega)]
        congr 2
        unfold shr
        have e1 : (8 * (i : Int)).toNat = 8 * i := by omega
        rw [e1, Nat.min_eq_left (by simp only [IntKind.bits]; omega), Int.pow_mul, show (2 : Int) ^ 8 = 256 from rfl]
      · rw [List.getElem?_set_ne (by omega)]
        exact h i (by omega)
theorem recLow_ev (x : Int) (m : Nat) (hm : m ≤ 7) : Ev (fun k => record_low.f k x (m : Int)) (strOfNums (lowL m x)) := by
  have h := recLow_l0 x m hm m (List.replicate m 0) 0 (by omega) (by simp) (by intro i hi; omega)
  refine Ev.congr (fun k => ?_) h
  unfold record_low.f
  rw [if_pos (by omega), if_pos (by omega), Int.toNat_natCast]
  simp only [Option.bind_some, List.length_replicate]
  rfl
theorem textL_str (s : ByteArray) : strOfNums (lowL 2 (s.size : Int)) ++ s = strOfNums (textL s) := by
  unfold textL
  rw [strOfNums_append, strOfNums_bytesOf]
theorem recText_ev (s : ByteArray) (hs : s.size ≤ 1024) : Ev (fun k => record_text.f k s) (strOfNums (textL s)) := by
  unfold record_text.f
  refine Ev.bind (recLow_ev (s.size : Int) 2 (by omega)) ?_
  have hl : (strOfNums (lowL 2 (s.size : Int))).size = 2 := by rw [size_strOfNums, lowL_length]
  simp only [hl, if_pos (show 2 + s.size ≤ 9223372036854775807 by omega), textL_str]
  exact Ev.now _
theorem textL_length (s : ByteArray) : (textL s).length = 2 + s.size := by
  unfold textL
  rw [List.length_append, lowL_length, bytesOf_length]
def headOf (x : Nd) : List Int := lowL 1 x.f0 ++ (lowL 2 (x.f1 + 1) ++ lowL 1 (x.f2.length : Int))
theorem flat_length : ∀ l : List ByteArray, (∀ s ∈ l, s.size ≤ 1024) → (l.flatMap textL).length ≤ 1026 * l.length
  | [], _ => Nat.le_refl _
  | s :: l, h => by
    have := flat_length l (fun x hx => h x (List.mem_cons_of_mem _ hx))
    have hs := h s (List.mem_cons_self ..)
    rw [List.flatMap_cons, List.length_append, textL_length, List.length_cons]
    omega
theorem put_l0 (x : Nd) (h : recS x = true) : ∀ (n i : Nat), i + n = x.f2.length → Ev (fun k => record_Put.l0 k (strOfNums (headOf x ++ (x.f2.take i).flatMap textL)) (i : Int) x.f2 x.f3) (recOf x, 0) := by
  obtain ⟨e, _, _⟩ := recS_spec h
  obtain ⟨_, _, q2, q3, q4⟩ := eqS_spec e
  have hz : ∀ i, (strOfNums (headOf x ++ (x.f2.take i).flatMap textL)).size ≤ 4000 := fun i => by
    have := flat_length (x.f2.take i) (fun s hs => mayS_size (q3 s (List.mem_of_mem_take hs)))
    have h2 : (x.f2.take i).length ≤ 3 := by rw [List.length_take]; omega
    rw [size_strOfNums, List.length_append]
    have h3 : (headOf x).length = 4 := by unfold headOf; rw [List.length_append, List.length_append, lowL_length, lowL_length, lowL_length]
    omega
  intro n
  induction n with
  | zero =>
    intro i hi
    have hs3 := mayS_size q4
    have hr := recText_ev x.f3 hs3
    have e1 : (strOfNums (textL x.f3)).size = 2 + x.f3.size := by rw [size_strOfNums, textL_length]
    refine Ev.step (f := fun k => (record_text.f k x.f3).bind fun t => (if (strOfNums (headOf x ++ (x.f2.take i).flatMap textL)).size + t.size ≤ 9223372036854775807 then some (strOfNums (headOf x ++ (x.f2.take i).flatMap textL) ++ t, 0) else none)) (fun k => by rw [record_Put.l0, if_neg (by omega)]) ?_
    refine Ev.bind hr ?_
    simp only [if_pos (show (strOfNums (headOf x ++ (x.f2.take i).flatMap textL)).size + (strOfNums (textL x.f3)).size ≤ 9223372036854775807 by have := hz i; omega)]
    have e2 : strOfNums (headOf x ++ (x.f2.take i).flatMap textL) ++ strOfNums (textL x.f3) = recOf x := by
      rw [← strOfNums_append, List.take_of_length_le (by omega)]
      unfold recOf recL headOf
      rw [List.append_assoc]
    rw [e2]
    exact Ev.now _
  | succ n ih =>
    intro i hi
    have hlt : i < x.f2.length := by omega
    have hw : wrap64 ((i : Int) + 1) = ((i + 1 : Nat) : Int) := by rw [w64 (by omega) (by omega)]; omega
    have hrd : rdOf ByteArray.empty x.f2 (i : Int) = x.f2[i] := by
      show x.f2.getD _ _ = _
      rw [Int.toNat_natCast, List.getD_eq_getElem?_getD, List.getElem?_eq_getElem hlt]; rfl
    have hsz := mayS_size (q3 _ (List.getElem_mem hlt))
    have e1 : (strOfNums (textL x.f2[i])).size = 2 + x.f2[i].size := by rw [size_strOfNums, textL_length]
    refine Ev.step (f := fun k => (record_text.f k x.f2[i]).bind fun t => (if (strOfNums (headOf x ++ (x.f2.take i).flatMap textL)).size + t.size ≤ 9223372036854775807 then record_Put.l0 k (strOfNums (headOf x ++ (x.f2.take i).flatMap textL) ++ t) ((i + 1 : Nat) : Int) x.f2 x.f3 else none)) (fun k => by rw [record_Put.l0, if_pos (by omega), if_pos (by omega), hrd, hw]) ?_
    refine Ev.bind (recText_ev _ hsz) ?_
    simp only [if_pos (show (strOfNums (headOf x ++ (x.f2.take i).flatMap textL)).size + (strOfNums (textL x.f2[i])).size ≤ 9223372036854775807 by have := hz i; omega)]
    have e2 : strOfNums (headOf x ++ (x.f2.take i).flatMap textL) ++ strOfNums (textL x.f2[i]) = strOfNums (headOf x ++ (x.f2.take (i + 1)).flatMap textL) := by
      rw [← strOfNums_append, List.take_succ_eq_append_getElem hlt, List.flatMap_append, List.append_assoc]
      simp only [List.flatMap_cons, List.flatMap_nil, List.append_nil]
    rw [e2]
    exact ih (i + 1) (by omega)
theorem putRec_ev (x : Nd) (hp0 : -9223372036854775808 ≤ x.f1) (hp1 : x.f1 ≤ 9223372036854775807) : Ev (fun k => record_Put.f k x.f0 x.f1 x.f2 x.f3) (putR x) := by
  unfold record_Put.f putR recS
  refine Ev.bind (equation_ev x) ?_
  cases he : eqS x with
  | false => simp only [if_neg Bool.false_ne_true, Bool.false_and]; exact Ev.now _
  | true =>
    simp only [if_pos, Bool.true_and]
    by_cases c1 : x.f1 < -1
    · rw [decide_eq_false (show ¬ -1 ≤ x.f1 by omega), Bool.false_and]
      simp only [if_pos c1, if_neg Bool.false_ne_true]; exact Ev.now _
    · rw [decide_eq_true (show -1 ≤ x.f1 by omega), Bool.true_and]
      by_cases c2 : x.f1 ≥ 512
      · rw [decide_eq_false (show ¬ x.f1 < 512 by omega)]
        simp only [if_neg c1, if_pos c2, if_neg Bool.false_ne_true]; exact Ev.now _
      · have c3 : x.f1 < 512 := by omega
        rw [decide_eq_true c3]
        simp only [if_neg c1, if_neg c2, if_pos]
        have hrs : recS x = true := by
          unfold recS
          rw [he, decide_eq_true (show -1 ≤ x.f1 by omega), decide_eq_true c3]; rfl
        obtain ⟨_, _, q2, _, _⟩ := eqS_spec he
        have hw : wrap64 (x.f1 + 1) = x.f1 + 1 := w64 (by omega) (by omega)
        unfold record_Put.m
        rw [hw]
        have s1 : (strOfNums (lowL 1 x.f0)).size = 1 := by rw [size_strOfNums, lowL_length]
        have s2 : (strOfNums (lowL 2 (x.f1 + 1))).size = 2 := by rw [size_strOfNums, lowL_length]
        have s3 : (strOfNums (lowL 1 (x.f2.length : Int))).size = 1 := by rw [size_strOfNums, lowL_length]
        refine Ev.bind (recLow_ev x.f0 1 (by omega)) (Ev.bind (recLow_ev (x.f1 + 1) 2 (by omega)) ?_)
        simp only [s1, s2, if_pos (show 1 + 2 ≤ 9223372036854775807 by omega)]
        refine Ev.bind (recLow_ev (x.f2.length : Int) 1 (by omega)) ?_
        simp only [ByteArray.size_append, s1, s2, s3, if_pos (show 1 + 2 + 1 ≤ 9223372036854775807 by omega)]
        have h0 := put_l0 x hrs x.f2.length 0 (by omega)
        have e0 : strOfNums (headOf x ++ (x.f2.take 0).flatMap textL) = (strOfNums (lowL 1 x.f0) ++ strOfNums (lowL 2 (x.f1 + 1))) ++ strOfNums (lowL 1 (x.f2.length : Int)) := by
          rw [List.take_zero, List.flatMap_nil, List.append_nil]
          unfold headOf
          rw [strOfNums_append, strOfNums_append, ByteArray.append_assoc]
        rw [e0] at h0
        exact h0
theorem take_min (L : List Int) (a : Nat) : L.take (min a L.length) = L.take a := by
  by_cases h : a ≤ L.length
  · rw [Nat.min_eq_left h]
  · rw [Nat.min_eq_right (by omega), List.take_of_length_le (Nat.le_refl _), List.take_of_length_le (by omega)]
theorem drop_min (L : List Int) (a : Nat) : L.drop (min a L.length) = L.drop a := by
  by_cases h : a ≤ L.length
  · rw [Nat.min_eq_left h]
  · rw [Nat.min_eq_right (by omega), List.drop_eq_nil_of_le (Nat.le_refl _), List.drop_eq_nil_of_le (by omega)]
theorem ext_take (s : ByteArray) (a : Nat) : bytesOf (s.extract 0 (min a s.size)) = (bytesOf s).take a := by
  rw [bytesOf_extract, List.drop_zero, ← bytesOf_length s, take_min]
theorem ext_drop (s : ByteArray) (a : Nat) : bytesOf (s.extract (min a s.size) s.size) = (bytesOf s).drop a := by
  rw [bytesOf_extract, ← bytesOf_length s, List.take_of_length_le (Nat.le_refl _), drop_min]
theorem takeB (s : ByteArray) (a : Nat) : ∃ t r, record_taker_take.f s (a : Int) = some (t, r) ∧ bytesOf t = (bytesOf s).take a ∧ bytesOf r = (bytesOf s).drop a := by
  refine ⟨s.extract 0 (min a s.size), s.extract (min a s.size) s.size, ?_, ext_take s a, ext_drop s a⟩
  have hm : mn (a : Int) (s.size : Int) = ((min a s.size : Nat) : Int) := by
    unfold mn
    split <;> omega
  have hz : (s.extract 0 (min a s.size)).size = min a s.size := by
    have := congrArg List.length (ext_take s a)
    rw [bytesOf_length, List.length_take, bytesOf_length] at this
    exact this
  have h1 : ((min a s.size : Nat) : Int) ≤ (s.size : Int) := by omega
  unfold record_taker_take.f
  rw [hm, Int.toNat_natCast, hz, if_pos (by omega), if_pos h1, if_pos (by omega), if_pos h1, Int.toNat_natCast]
theorem numB (s : ByteArray) (a : Nat) (ha : a ≤ 2) : ∃ r, (∀ k, record_taker_number.f k s (a : Int) = some (numLE ((bytesOf s).take a), r)) ∧ bytesOf r = (bytesOf s).drop a := by
  obtain ⟨t, r, h1, h2, h3⟩ := takeB s a
  refine ⟨r, fun k => ?_, h3⟩
  have hz : t.size ≤ 2 := by
    have := congrArg List.length h2
    rw [bytesOf_length, List.length_take] at this
    omega
  unfold record_taker_number.f
  rw [h1]
  simp only [Option.bind_some, if_pos hz, h2]
theorem num_rng (L : List Int) (h : ∀ y ∈ L, 0 ≤ y ∧ y < 256) (a : Nat) (ha : a ≤ 2) : 0 ≤ numLE (L.take a) ∧ numLE (L.take a) < 65536 := by
  obtain ⟨h0, h1⟩ := numLE_range (L.take a) (fun y hy => h y (List.mem_of_mem_take hy))
  refine ⟨h0, Int.lt_of_lt_of_le h1 ?_⟩
  have hl : (L.take a).length ≤ 2 := by rw [List.length_take]; omega
  have : (L.take a).length = 0 ∨ (L.take a).length = 1 ∨ (L.take a).length = 2 := by omega
  rcases this with e | e | e <;> rw [e] <;> decide
theorem textB (s : ByteArray) : ∃ r, (∀ k, record_taker_text.f k s = some ((textP (bytesOf s)).1, r)) ∧ bytesOf r = (textP (bytesOf s)).2 := by
  obtain ⟨q, h1, h2⟩ := numB s 2 (by omega)
  obtain ⟨n0, n1⟩ := num_rng (bytesOf s) (bytesOf_range s) 2 (by omega)
  obtain ⟨t, r, g1, g2, g3⟩ := takeB q (numLE ((bytesOf s).take 2)).toNat
  rw [h2] at g2 g3
  have e : ((numLE ((bytesOf s).take 2)).toNat : Int) = numLE ((bytesOf s).take 2) := by omega
  rw [e] at g1
  refine ⟨r, fun k => ?_, g3⟩
  have h1' := h1 k
  unfold record_taker_text.f
  rw [show ((2 : Nat) : Int) = 2 from rfl] at h1'
  rw [h1']
  simp only [Option.bind_some, g1]
  have et : t = (textP (bytesOf s)).1 := by
    unfold textP
    rw [← g2, strOfNums_bytesOf]
  rw [et]
theorem argsB : ∀ (n x m : Nat) (l : List ByteArray) (s : ByteArray), x + n = m → m ≤ 3 → l.length = x → ∃ r, Ev (fun k => record_Get.l0 k (m : Int) (x : Int) l s) (l ++ (argsP n (bytesOf s)).1, r) ∧ bytesOf r = (argsP n (bytesOf s)).2
  | 0, x, m, l, s, hx, hm, hl => ⟨s, Ev.step (f := fun _ => some (l, s)) (fun k => by rw [record_Get.l0, if_neg (by omega)]) (by rw [argsP, List.append_nil]; exact Ev.now _), rfl⟩
  | n + 1, x, m, l, s, hx, hm, hl => by
    obtain ⟨q, h1, h2⟩ := textB s
    obtain ⟨r, g1, g2⟩ := argsB n (x + 1) m (l ++ [(textP (bytesOf s)).1]) q (by omega) hm (by rw [List.length_append, hl]; rfl)
    rw [h2] at g1 g2
    refine ⟨r, ?_, by rw [argsP]; exact g2⟩
    have hw : wrap64 ((x : Int) + 1) = ((x + 1 : Nat) : Int) := by rw [w64 (by omega) (by omega)]; omega
    refine Ev.step (f := fun k => record_Get.l0 k (m : Int) ((x + 1 : Nat) : Int) (l ++ [(textP (bytesOf s)).1]) q) (fun k => by rw [record_Get.l0, if_pos (by omega), h1 k]; simp only [Option.bind_some]; rw [if_pos (by omega), hw]) ?_
    rw [argsP]
    rw [List.append_assoc] at g1
    exact g1
def flatR (p : Nd × Int) : Int × Int × List ByteArray × ByteArray × Int := (p.1.f0, p.1.f1, p.1.f2, p.1.f3, p.2)
theorem getRec_ev (s : ByteArray) : Ev (fun k => record_Get.f k s) (flatR (getR s)) := by
  obtain ⟨s1, a1, b1⟩ := numB s 1 (by omega)
  obtain ⟨s2, a2, b2⟩ := numB s1 2 (by omega)
  obtain ⟨s3, a3, b3⟩ := numB s2 1 (by omega)
  rw [b1] at a2 b2
  rw [b2, List.drop_drop] at a3 b3
  rw [List.drop_drop] at b3
  have hr := bytesOf_range s
  have hr1 : ∀ n, ∀ y ∈ (bytesOf s).drop n, 0 ≤ y ∧ y < 256 := fun n y hy => hr y (List.mem_of_mem_drop hy)
  have n1 := num_rng _ (hr1 1) 2 (by omega)
  have n3 := num_rng _ (hr1 3) 1 (by omega)
  have hmany : mn (numLE (((bytesOf s).drop 3).take 1)) 3 = ((manyP (bytesOf s)).toNat : Int) ∧ (manyP (bytesOf s)).toNat ≤ 3 := by
    unfold mn manyP
    generalize numLE (((bytesOf s).drop 3).take 1) = v at n3
    split <;> split <;> omega
  obtain ⟨q, g1, g2⟩ := argsB (manyP (bytesOf s)).toNat 0 (manyP (bytesOf s)).toNat [] s3 (Nat.zero_add _) hmany.2 rfl
  rw [b3, List.nil_append] at g1
  rw [b3] at g2
  obtain ⟨z, h1, h2⟩ := textB q
  rw [g2] at h1
  have hw : wrap64 (numLE (((bytesOf s).drop 1).take 2) - 1) = numLE (((bytesOf s).drop 1).take 2) - 1 := w64 (by omega) (by omega)
  have hp := putRec_ev (getP (bytesOf s)) (by show _ ≤ numLE (((bytesOf s).drop 1).take 2) - 1; omega) (by show numLE (((bytesOf s).drop 1).take 2) - 1 ≤ _; omega)
  unfold record_Get.f
  refine Ev.bind (Ev.congr (fun k => a1 k) (Ev.now _)) (Ev.bind (Ev.congr (fun k => a2 k) (Ev.now _)) (Ev.bind (Ev.congr (fun k => a3 k) (Ev.now _)) ?_))
  simp only [hmany.1]
  refine Ev.bind g1 (Ev.bind (Ev.congr (fun k => h1 k) (Ev.now _)) ?_)
  simp only [hw]
  refine Ev.bind hp ?_
  unfold getR putR flatR
  by_cases c : recS (getP (bytesOf s)) = true
  · simp only [if_pos c, if_pos, toList_inj]
    by_cases d : recOf (getP (bytesOf s)) = s
    · simp only [if_pos d, c, d, and_self, if_true]; exact Ev.now _
    · simp only [if_neg d, d, and_false, if_false]; exact Ev.now _
  · have g : ¬ (1500 : Int) = 0 := by decide
    simp only [if_neg c, if_neg g, c, false_and, if_false]; exact Ev.now _
def textS (ns : List Nd) : ByteArray × Int := if mayT ns = true then (if 65536 < (fileB ns).size then (⟨#[]⟩, 1700) else (fileB ns, 0)) else (⟨#[]⟩, 1700)
theorem fileB_take (ns : List Nd) (i : Nat) : fileB ns = fileB (ns.take i) ++ fileB (ns.drop i) := by rw [← fileB_app, List.take_append_drop]
theorem text_l0 (ns : List Nd) (hv : validS ns) : ∀ (n i : Nat), i + n = ns.length → (fileB (ns.take i)).size ≤ 65536 → Ev (fun k => file_Text.l0 k ns (fileB (ns.take i)) (i : Int)) (if 65536 < (fileB ns).size then ((⟨#[]⟩ : ByteArray), (1700 : Int)) else (fileB ns, 0)) := by
  intro n
  induction n with
  | zero =>
    intro i hi hs
    rw [List.take_of_length_le (by omega)] at hs ⊢
    rw [if_neg (by omega)]
    refine Ev.step (f := fun _ => some (fileB ns, 0)) (fun k => ?_) (Ev.now _)
    rw [file_Text.l0, if_neg (by omega)]
  | succ n ih =>
    intro i hi hs
    have hlt : i < ns.length := by omega
    have hx := hv i hlt
    have hr := recS_of_next hx
    have hr2 := recS_spec hr
    have e1 := putRec_ev ns[i] (by omega) (by omega)
    have e2 := put_ev (recOf ns[i])
    have hp : putR ns[i] = (recOf ns[i], 0) := by unfold putR; rw [if_pos hr]
    have hf : putF (recOf ns[i]) = (frec ns[i], 0) := putF_small _ (recOf_size hr)
    rw [hp] at e1
    rw [hf] at e2
    have c1 : (i : Int) < (ns.length : Int) := by omega
    have hz := frec_size ns[i]
    have hz2 := recOf_size hr
    have c2 : (fileB (ns.take i)).size + (frec ns[i]).size ≤ 140737488355328 := by omega
    have eT : fileB (ns.take i) ++ frec ns[i] = fileB (ns.take (i + 1)) := by rw [List.take_succ_eq_append_getElem hlt, fileB_app, fileB_one]
    have eN : (i : Int) + 1 = ((i + 1 : Nat) : Int) := by omega
    refine Ev.step (f := fun k => (record_Put.f k ns[i].f0 ns[i].f1 ns[i].f2 ns[i].f3).bind fun s => (frame_Put.f k s.1).bind fun t => if (fileB (ns.take i)).size + t.1.size ≤ 140737488355328 then (if (65536 : Int) < (((fileB (ns.take i)) ++ t.1).size : Int) then some ((⟨#[]⟩ : ByteArray), (1700 : Int)) else file_Text.l0 k ns ((fileB (ns.take i)) ++ t.1) ((i : Int) + 1)) else none) (fun k => ?_) ?_
    · rw [file_Text.l0, if_pos c1]
      have := rn_eq ns i hlt
      unfold rn at this
      rw [this]
    · refine Ev.bind e1 (Ev.bind e2 ?_)
      simp only [if_pos c2, eT, eN]
      by_cases c3 : (65536 : Int) < ((fileB (ns.take (i + 1))).size : Int)
      · simp only [if_pos c3]
        have : 65536 < (fileB ns).size := by
          rw [fileB_take ns (i + 1), ByteArray.size_append]; omega
        rw [if_pos this]
        exact Ev.now _
      · simp only [if_neg c3]
        exact ih (i + 1) (by omega) (by omega)
theorem text_ev (ns : List Nd) : Ev (fun k => file_Text.f k ns) (textS ns) := by
  unfold file_Text.f textS
  refine Ev.bind (trailMay_ev ns) ?_
  by_cases c : mayT ns = true
  · simp only [c, if_pos]
    exact text_l0 ns ((mayT_iff ns).1 c).2 ns.length 0 (by omega) (by rw [List.take_zero]; decide)
  · rw [if_neg c]
    simp only [if_neg c]
    exact Ev.now _
/-! what is loaded -/
def framesK (t : ByteArray) : Nat → Int → List (ByteArray × Int)
  | 0, _ => []
  | n + 1, at_ => if (getF t at_).2.2 = 0 then ((getF t at_).1, (getF t at_).2.1) :: framesK t n (getF t at_).2.1 else []
theorem getF_next {t : ByteArray} {at_ : Int} (h : (getF t at_).2.2 = 0) : 0 ≤ at_ ∧ at_ + 6 ≤ (getF t at_).2.1 ∧ (getF t at_).2.1 ≤ (t.size : Int) := by
  have hg : getF t at_ = ((getF t at_).1, (getF t at_).2.1, 0) := by rw [← h]
  obtain ⟨h0, h1, h2, h3, h4, _⟩ := getF_spec hg
  have := frame_size (getF t at_).1
  exact ⟨h0, by omega, h4⟩
theorem frames_ev (t : ByteArray) (ht : t.size ≤ 65536) : ∀ (n : Nat) (at_ : Int), 0 ≤ at_ → at_ ≤ (t.size : Int) → (t.size : Int) - at_ < n → Ev (fun k => file_Load.frames k t at_) (framesK t n at_)
  | 0, at_, h0, h1, h2 => absurd h2 (by omega)
  | n + 1, at_, h0, h1, h2 => by
    have e := get_ev t at_ (by omega) (by omega) (by omega)
    refine Ev.step (f := fun k => (frame_Get.f k t at_).bind fun g => if g.2.2 = 0 then (file_Load.frames k t g.2.1).bind fun r => some ((g.1, g.2.1) :: r) else some []) (fun k => by rw [file_Load.frames]) ?_
    refine Ev.bind e ?_
    rw [framesK]
    by_cases c : (getF t at_).2.2 = 0
    · simp only [if_pos c]
      obtain ⟨g0, g1, g2⟩ := getF_next c
      exact Ev.bind (frames_ev t ht n _ (by omega) g2 (by omega)) (Ev.now _)
    · simp only [if_neg c]
      exact Ev.now _
theorem framesK_len (t : ByteArray) : ∀ (n : Nat) (at_ : Int), 0 ≤ at_ → at_ ≤ (t.size : Int) → ((framesK t n at_).length : Int) * 6 + at_ ≤ (t.size : Int)
  | 0, at_, h0, h1 => by rw [framesK]; simpa using h1
  | n + 1, at_, h0, h1 => by
    rw [framesK]
    by_cases c : (getF t at_).2.2 = 0
    · rw [if_pos c, List.length_cons]
      obtain ⟨g0, g1, g2⟩ := getF_next c
      have := framesK_len t n (getF t at_).2.1 (by omega) g2
      omega
    · rw [if_neg c]; simpa using h1
def foldS : List (ByteArray × Int) → List Nd → Int → List Nd × Int
  | [], out, at_ => (out, at_)
  | x :: xs, out, at_ => if (getR x.1).2 = 0 ∧ nextS (getR x.1).1 (out.length : Int) = true then foldS xs (out ++ [(getR x.1).1]) x.2 else (out, at_)
theorem foldS_load (t : ByteArray) : ∀ (n m : Nat) (out : List Nd) (at_ : Int), 0 ≤ at_ → at_ ≤ (t.size : Int) → (t.size : Int) - at_ < n → m + out.length = 513 → foldS (framesK t n at_) out at_ = loadK t m out at_
  | 0, m, out, at_, h0, h1, h2, hm => absurd h2 (by omega)
  | n + 1, m, out, at_, h0, h1, h2, hm => by
    rw [framesK]
    by_cases c : (getF t at_).2.2 = 0
    · rw [if_pos c, foldS]
      obtain ⟨g0, g1, g2⟩ := getF_next c
      by_cases c2 : (getR (getF t at_).1).2 = 0 ∧ nextS (getR (getF t at_).1).1 (out.length : Int) = true
      · rw [if_pos c2]
        have hlt := nextS_512 c2.2
        obtain ⟨m', rfl⟩ : ∃ m', m = m' + 1 := ⟨m - 1, by omega⟩
        have hs : stepF t out.length at_ = some ((getR (getF t at_).1).1, (getF t at_).2.1) := by unfold stepF; rw [if_pos c, if_pos c2.1, if_pos c2.2]
        rw [loadK, hs]
        exact foldS_load t n m' _ _ (by omega) g2 (by omega) (by rw [List.length_append, List.length_singleton]; omega)
      · rw [if_neg c2]
        have hs : stepF t out.length at_ = none := by
          unfold stepF
          rw [if_pos c]
          by_cases c3 : (getR (getF t at_).1).2 = 0
          · rw [if_pos c3, if_neg (fun h => c2 ⟨c3, h⟩)]
          · rw [if_neg c3]
        cases m with
        | zero => rfl
        | succ m => rw [loadK, hs]
    · rw [if_neg c, foldS]
      have hs : stepF t out.length at_ = none := by unfold stepF; rw [if_neg c]
      cases m with
      | zero => rfl
      | succ m => rw [loadK, hs]
theorem ev_range {p : Nat → Nat → Prop} : ∀ (N : Nat), (∀ i, i < N → ∃ K, ∀ k, K ≤ k → p k i) → ∃ K, ∀ k, K ≤ k → ∀ i, i < N → p k i
  | 0, _ => ⟨0, fun _ _ i hi => absurd hi (Nat.not_lt_zero _)⟩
  | N + 1, h => by
    obtain ⟨K1, h1⟩ := ev_range N (fun i hi => h i (by omega))
    obtain ⟨K2, h2⟩ := h N (by omega)
    refine ⟨max K1 K2, fun k hk i hi => ?_⟩
    by_cases c : i = N
    · subst c; exact h2 k (by omega)
    · exact h1 k (by omega) i (by omega)
theorem ev_list {α : Type} {p : Nat → α → Prop} : ∀ (l : List α), (∀ x ∈ l, ∃ K, ∀ k, K ≤ k → p k x) → ∃ K, ∀ k, K ≤ k → ∀ x ∈ l, p k x
  | [], _ => ⟨0, fun _ _ x hx => by cases hx⟩
  | y :: l, h => by
    obtain ⟨K1, h1⟩ := ev_list l (fun x hx => h x (List.mem_cons_of_mem _ hx))
    obtain ⟨K2, h2⟩ := h y List.mem_cons_self
    refine ⟨max K1 K2, fun k hk x hx => ?_⟩
    rcases List.mem_cons.1 hx with rfl | hx
    · exact h2 k (by omega)
    · exact h1 k (by omega) x hx
def known (N k : Nat) (x : ByteArray × Int) : Prop := record_Get.f k x.1 = some (flatR (getR x.1)) ∧ ∀ i : Nat, i < N → trail_Next.f k (getR x.1).1.f0 (getR x.1).1.f1 (getR x.1).1.f2 (getR x.1).1.f3 (i : Int) = some (nextS (getR x.1).1 (i : Int))
theorem known_ev (N : Nat) (x : ByteArray × Int) : ∃ K, ∀ k, K ≤ k → known N k x := by
  obtain ⟨K1, h1⟩ := getRec_ev x.1
  obtain ⟨K2, h2⟩ := ev_range (p := fun k i => trail_Next.f k (getR x.1).1.f0 (getR x.1).1.f1 (getR x.1).1.f2 (getR x.1).1.f3 (i : Int) = some (nextS (getR x.1).1 (i : Int))) N (fun i _ => next_ev (getR x.1).1 (i : Int))
  exact ⟨max K1 K2, fun k hk => ⟨h1 k (by omega), h2 k (by omega)⟩⟩
theorem known_good {N k : Nat} {x : ByteArray × Int} (h : known N k x) : file_Load.good k N x = true := by
  unfold file_Load.good
  rw [h.1]
  refine List.all_eq_true.2 fun i hi => ?_
  have := h.2 i (List.mem_range.1 hi)
  simp only [flatR]
  rw [this]; rfl
theorem fold_known {N k : Nat} : ∀ (ys : List (ByteArray × Int)) (out : List Nd) (at_ : Int), (∀ y ∈ ys, known N k y) → out.length + ys.length ≤ N → file_Load.fold k ys out at_ = foldS ys out at_
  | [], _, _, _, _ => rfl
  | y :: ys, out, at_, h, hl => by
    obtain ⟨h1, h2⟩ := h y List.mem_cons_self
    rw [List.length_cons] at hl
    have h3 := h2 out.length (by omega)
    rw [file_Load.fold, foldS, h1]
    simp only [flatR, h3, Option.some.injEq]
    by_cases c : (getR y.1).2 = 0 ∧ nextS (getR y.1).1 (out.length : Int) = true
    · rw [if_pos c, if_pos c]
      exact fold_known ys _ _ (fun z hz => h z (List.mem_cons_of_mem _ hz)) (by rw [List.length_append, List.length_singleton]; omega)
    · rw [if_neg c, if_neg c]
def cutT (s : ByteArray) : ByteArray := s.extract 0 (min s.size 65536)
def loadT (s : ByteArray) : List Nd × Int := loadS (cutT s)
theorem cutT_size (s : ByteArray) : (cutT s).size = min s.size 65536 := by unfold cutT; rw [size_extract _ _ _ (by omega)]; omega
theorem load_ev (s : ByteArray) : Ev (fun k => file_Load.f k s) (loadT s) := by
  have hz := cutT_size s
  obtain ⟨xs, hxs⟩ : ∃ xs, xs = framesK (cutT s) ((cutT s).size + 1) 0 := ⟨_, rfl⟩
  obtain ⟨K1, h1⟩ := frames_ev (cutT s) (by omega) ((cutT s).size + 1) 0 (by omega) (by omega) (by omega)
  rw [← hxs] at h1
  have hl : xs.length ≤ 65536 := by
    have := framesK_len (cutT s) ((cutT s).size + 1) 0 (by omega) (by omega)
    rw [← hxs] at this
    omega
  obtain ⟨K2, h2⟩ := ev_list xs (p := known xs.length) (fun x _ => known_ev xs.length x)
  refine ⟨max K1 K2, fun k hk => ?_⟩
  have h3 := h2 k (by omega)
  have h4 : file_Load.frames k (cutT s) 0 = some xs := h1 k (by omega)
  unfold cutT at h4
  show (file_Load.frames k (s.extract 0 (min s.size 65536)) 0).bind _ = _
  rw [h4, Option.bind_some, if_pos ⟨hl, List.all_eq_true.2 fun x hx => known_good (h3 x hx)⟩, fold_known xs [] 0 h3 (by simp)]
  congr 1
  rw [hxs]
  exact foldS_load (cutT s) _ 513 [] 0 (by omega) (by omega) (by omega) rfl
def fineN (l : List Nd) : Prop := l.length * 56 ≤ 140737488351232 ∧ ∀ x ∈ l, (Lit.int .i64 x.f0).wf = true ∧ (Lit.int .i64 x.f1).wf = true ∧ (x.f2.length * 16 ≤ 140737488351232 ∧ ∀ s ∈ x.f2, s.size ≤ 140737488351232) ∧ x.f3.size ≤ 140737488351232
theorem fineN.ok {l : List Nd} (h : fineN l) : okN l := ⟨by have := h.1; omega, fun x hx => by have := (h.2 x hx).2.2.1.1; omega⟩
theorem num_ev (x : Int) : Ev (fun _ => sleuthlaw0_Num.f x) x := Ev.now _
theorem sameTexts_l0 (a : List ByteArray) (ha : a.length ≤ 9223372036854775806) : ∀ (n i : Nat), i + n = a.length → Ev (fun k => sleuthlaw0_SameTexts.l0 k a a (i : Int)) true := by
  intro n
  induction n with
  | zero =>
    intro i hi
    refine Ev.step (f := fun _ => some true) (fun k => ?_) (Ev.now _)
    rw [sleuthlaw0_SameTexts.l0, if_neg (by omega)]
  | succ n ih =>
    intro i hi
    have hw : wrap64 ((i : Int) + 1) = ((i + 1 : Nat) : Int) := by rw [w64 (by omega) (by omega)]; omega
    refine Ev.step (f := fun k => sleuthlaw0_SameTexts.l0 k a a ((i + 1 : Nat) : Int)) (fun k => ?_) (ih (i + 1) (by omega))
    rw [sleuthlaw0_SameTexts.l0, if_pos (by omega), if_pos (by omega), if_pos (by omega), if_pos rfl, hw]
theorem sameTexts_ev (a : List ByteArray) (ha : a.length ≤ 9223372036854775806) : Ev (fun k => sleuthlaw0_SameTexts.f k a a) true := by
  unfold sleuthlaw0_SameTexts.f
  simp only [if_pos]
  exact sameTexts_l0 a ha a.length 0 (by omega)
theorem sameNode_ev (x : Nd) (hx : x.f2.length ≤ 9223372036854775806) : Ev (fun k => sleuthlaw0_SameNode.f k x.f0 x.f1 x.f2 x.f3 x.f0 x.f1 x.f2 x.f3) true := by
  unfold sleuthlaw0_SameNode.f
  simp only [if_pos]
  refine Ev.bind (sameTexts_ev _ hx) ?_
  simp only [if_pos, beq_self_eq_true]
  exact Ev.now _
theorem sameNodes_l0 (a : List Nd) (ha : okN a) : ∀ (n i : Nat), i + n = a.length → Ev (fun k => sleuthlaw0_SameNodes.l0 k a a (i : Int)) true := by
  intro n
  have hl := ha.1
  induction n with
  | zero =>
    intro i hi
    refine Ev.step (f := fun _ => some true) (fun k => ?_) (Ev.now _)
    simp only [sleuthlaw0_SameNodes.l0]
    rw [if_neg (by omega)]
  | succ n ih =>
    intro i hi
    have hw : wrap64 ((i : Int) + 1) = ((i + 1 : Nat) : Int) := by rw [w64 (by omega) (by omega)]; omega
    refine Ev.step (f := fun k => (sleuthlaw0_SameNode.f k (rn a (i : Int)).f0 (rn a (i : Int)).f1 (rn a (i : Int)).f2 (rn a (i : Int)).f3 (rn a (i : Int)).f0 (rn a (i : Int)).f1 (rn a (i : Int)).f2 (rn a (i : Int)).f3).bind fun t => if t = true then sleuthlaw0_SameNodes.l0 k a a ((i + 1 : Nat) : Int) else some false) (fun k => ?_) ?_
    · rw [sleuthlaw0_SameNodes.l0, if_pos (by omega), if_pos (by omega), if_pos (by omega), hw]
    · refine Ev.bind (sameNode_ev (rn a (i : Int)) (Nat.le_trans (ha.at _) (by omega))) ?_
      simp only [if_pos]
      exact ih (i + 1) (by omega)
theorem sameNodes_ev (a : List Nd) (ha : okN a) : Ev (fun k => sleuthlaw0_SameNodes.f k a a) true := by
  unfold sleuthlaw0_SameNodes.f
  simp only [if_pos]
  exact sameNodes_l0 a ha a.length 0 (by omega)
def some17 : List Nd := [(⟨0, (-1), ([] : List ByteArray), (⟨#[57]⟩ : ByteArray)⟩ : Nd), (⟨1, 0, (([(⟨#[64, 55, 40, 95, 32, 52, 41]⟩ : ByteArray), (⟨#[53]⟩ : ByteArray)] : List ByteArray)), (⟨#[57]⟩ : ByteArray)⟩ : Nd), (⟨2, 0, ([] : List ByteArray), (⟨#[33]⟩ : ByteArray)⟩ : Nd), (⟨1, 1, (([(⟨#[49]⟩ : ByteArray), (⟨#[95]⟩ : ByteArray)] : List ByteArray)), (⟨#[95]⟩ : ByteArray)⟩ : Nd), (⟨1, 2, (([(⟨#[49]⟩ : ByteArray), (⟨#[95]⟩ : ByteArray)] : List ByteArray)), (⟨#[95]⟩ : ByteArray)⟩ : Nd)]
theorem some17_eq : sleuthlaw17_some.f = some some17 := rfl
theorem some17_may : mayT some17 = true := by kernel_rfl
theorem valid_ok {xs : List Nd} (h : validS xs) : okN xs := by
  refine ⟨by have := valid_len h; omega, fun x hx => ?_⟩
  obtain ⟨i, hi, rfl⟩ := List.getElem_of_mem hx
  have := (eqS_spec (recS_spec (recS_of_next (h i hi))).1).2.2.1
  omega
theorem fileB_size {xs : List Nd} (h : ∀ x ∈ xs, recS x = true) : (fileB xs).size ≤ 8198 * xs.length := by
  induction xs with
  | nil => exact Nat.le_refl _
  | cons x xs ih =>
    rw [fileB, ByteArray.size_append, frec_size, List.length_cons]
    have h1 := recOf_size (h x List.mem_cons_self)
    have h2 := ih (fun y hy => h y (List.mem_cons_of_mem _ hy))
    omega
theorem valid_rec {xs : List Nd} (h : validS xs) : ∀ x ∈ xs, recS x = true := fun x hx => by
  obtain ⟨i, hi, rfl⟩ := List.getElem_of_mem hx
  exact recS_of_next (h i hi)
theorem cutT_le {s : ByteArray} (h : s.size ≤ 65536) : cutT s = s := by
  unfold cutT
  rw [Nat.min_eq_left h, ByteArray.extract_zero_size]
theorem cut_pre (s : ByteArray) : ∃ r, s = cutT s ++ r := ⟨_, split_at s (min s.size 65536) s.size (by omega) (Nat.le_refl _)⟩
theorem ext_pre (a b : ByteArray) : (a ++ b).extract 0 a.size = a := by
  apply bytesOf_inj
  rw [bytesOf_extract, bytesOf_append, List.drop_zero, List.take_append_of_le_length (by rw [bytesOf_length]; omega), List.take_of_length_le (by rw [bytesOf_length]; omega)]
theorem textS_ok {ns : List Nd} (h : mayT ns = true) (hs : (fileB ns).size ≤ 65536) : textS ns = (fileB ns, 0) := by
  unfold textS
  rw [if_pos h, if_neg (by omega)]
theorem textS_cases (ns : List Nd) : (mayT ns = true ∧ (fileB ns).size ≤ 65536 ∧ textS ns = (fileB ns, 0)) ∨ textS ns = (⟨#[]⟩, 1700) := by
  unfold textS
  by_cases c : mayT ns = true
  · rw [if_pos c]
    by_cases c2 : 65536 < (fileB ns).size
    · rw [if_pos c2]; exact .inr rfl
    · rw [if_neg c2]; exact .inl ⟨c, by omega, rfl⟩
  · rw [if_neg c]; exact .inr rfl
theorem load_short {ys : List Nd} {r : ByteArray} (hv : validS ys) (hr : r.size < 6) (hs : (fileB ys ++ r).size ≤ 65536) : loadT (fileB ys ++ r) = (ys, ((fileB ys).size : Int)) := by
  unfold loadT
  rw [cutT_le hs]
  exact loadS_eq hv rfl (stepF_short (by rw [ByteArray.size_append]; omega))
theorem empty_app (s : ByteArray) : s = s ++ (⟨#[]⟩ : ByteArray) := (app_nil s).symm
theorem load_file {ys : List Nd} (hv : validS ys) (hs : (fileB ys).size ≤ 65536) : loadT (fileB ys) = (ys, ((fileB ys).size : Int)) := by
  have := load_short (r := ⟨#[]⟩) hv (by decide) (by rw [app_nil]; exact hs)
  rwa [app_nil] at this
theorem awake17_ev : Ev (fun k => sleuthlaw17_awake.f k) true := by
  unfold sleuthlaw17_awake.f
  have hv := ((mayT_iff some17).1 some17_may).2
  have hz : (fileB some17).size ≤ 40990 := fileB_size (valid_rec hv)
  have e1 := text_ev some17
  rw [textS_ok some17_may (by omega)] at e1
  have e2 := load_ev (fileB some17 ++ (⟨#[120]⟩ : ByteArray))
  rw [load_short hv (by decide) (by rw [ByteArray.size_append]; show _ + 1 ≤ _; omega)] at e2
  have e3 := load_ev (⟨#[]⟩ : ByteArray)
  rw [show loadT (⟨#[]⟩ : ByteArray) = ([], 0) from load_file (ys := []) valid_nil (by decide)] at e3
  have e4 := text_ev []
  have h4 : textS [] = (⟨#[]⟩, 1700) := by unfold textS; rw [if_neg (by decide)]
  rw [h4] at e4
  simp only [some17_eq, Option.bind_some]
  refine Ev.bind e1 ?_
  have c1 : (fileB some17).size + 1 ≤ 9223372036854775807 := by omega
  simp only [if_pos c1]
  refine Ev.bind e2 (Ev.bind e3 (Ev.bind e4 ?_))
  simp only [sleuthlaw0_Num.f, Option.bind_some, if_pos]
  refine Ev.bind (sameNodes_ev some17 (valid_ok hv)) ?_
  simp only [if_pos, List.length_nil, Int.natCast_zero, BEq.rfl]
  exact Ev.now _
end Go.Proofs.YtnhmmbgnaogokaaDoor.G
end
