import Derived.Test.YtnoehmpmkfkgfaaDoorG14
import Derived.Test.YtnoehmpmkfkgfaaDoorG9
namespace Go.Proofs.YtnoehmpmkfkgfaaDoor.G
open Go.RowKit Go.Proofs.YtnoehmpmkfkgfaaDoorW.PrintWords Go.Proofs.YtnoehmpmkfkgfaaDoorW.PrintLast Go.Proofs.YtnoehmpmkfkgfaaDoorW.PrintMore
set_option linter.unusedVariables false
set_option linter.unusedSimpArgs false

theorem w64 {x : Int} (h0 : -9223372036854775808 ≤ x) (h1 : x ≤ 9223372036854775807) : wrap64 x = x := by unfold wrap64; omega

/-! bytes as lists -/
abbrev B (l : List UInt8) : ByteArray := ⟨l.toArray⟩
theorem B_data (s : ByteArray) : B s.data.toList = s := by cases s; rfl
theorem B_size (l : List UInt8) : (B l).size = l.length := by simp [ByteArray.size]
theorem B_list (l : List UInt8) : (B l).data.toList = l := rfl
theorem B_toList (l : List UInt8) : (B l).toList = l := by rw [Lib.toList_data]
theorem B_inj {l m : List UInt8} : B l = B m ↔ l = m := by simp [B]
theorem B_extract (l : List UInt8) (i j : Nat) : (B l).extract i j = B ((l.take j).drop i) := by
  rw [← B_data ((B l).extract i j)]
  congr 1
  simp only [ByteArray.data_extract, Array.toList_extract, List.extract_eq_drop_take']
theorem B_tail (l : List UInt8) (i : Nat) : (B l).extract i (B l).size = B (l.drop i) := by
  rw [B_extract, B_size, List.take_length]
theorem B_head (l : List UInt8) (j : Nat) : (B l).extract 0 j = B (l.take j) := by rw [B_extract]; rfl
theorem B_bt (l : List UInt8) (i : Nat) (h : i < l.length) : bt (B l) (i : Int) = (l[i].toNat : Int) := by
  unfold bt
  have h' : (i : Int).toNat < (B l).size := by rw [B_size]; omega
  rw [dif_pos h']
  rfl
theorem B_append (l m : List UInt8) : B l ++ B m = B (l ++ m) := by
  rw [← B_data (B l ++ B m)]; congr 1

/-! the word at the front -/
def nsep (b : UInt8) : Bool := !(b == 32 || b == 40 || b == 41)
theorem seps_contains (b : UInt8) : seps.data.toList.contains b = !nsep b := by
  show [(32 : UInt8), 40, 41].contains b = _
  unfold nsep
  simp [Bool.or_assoc]
  rfl
theorem indexAny_seps : ∀ l : List UInt8, Lib.indexAny l seps.data.toList = if (l.takeWhile nsep).length = l.length then -1 else ((l.takeWhile nsep).length : Int)
  | [] => rfl
  | b :: l => by
    unfold Lib.indexAny
    rw [seps_contains, indexAny_seps l]
    cases hb : nsep b with
    | false => simp [List.takeWhile_cons, hb]
    | true =>
      have hle : (l.takeWhile nsep).length ≤ l.length := (List.takeWhile_prefix nsep).length_le
      simp only [List.takeWhile_cons, hb, Bool.not_true, if_true, List.length_cons, Bool.false_eq_true, if_false]
      by_cases c : (l.takeWhile nsep).length = l.length
      · rw [if_pos c, if_pos (show ((-1 : Int) == -1) = true from rfl), if_pos (by rw [c])]
      · have : ¬ ((((l.takeWhile nsep).length : Int) == -1) = true) := by rw [beq_iff_eq]; omega
        rw [if_neg c, if_neg this, if_neg (fun h => c (Nat.succ.inj h))]; rfl
theorem take_takeWhile : ∀ l : List UInt8, l.take (l.takeWhile nsep).length = l.takeWhile nsep
  | [] => rfl
  | b :: l => by
    cases hb : nsep b with
    | false => simp [List.takeWhile_cons, hb]
    | true => simp [List.takeWhile_cons, hb, take_takeWhile l]
theorem drop_takeWhile : ∀ l : List UInt8, l.drop (l.takeWhile nsep).length = l.dropWhile nsep
  | [] => rfl
  | b :: l => by
    cases hb : nsep b with
    | false => simp [List.takeWhile_cons, hb]
    | true => simp [List.takeWhile_cons, hb, drop_takeWhile l]
theorem word_eq (l : List UInt8) (hl : l.length ≤ 1024) : term_word.f (B l) = some (B (l.takeWhile nsep), B (l.dropWhile nsep)) := by
  have hle : (l.takeWhile nsep).length ≤ l.length := (List.takeWhile_prefix nsep).length_le
  unfold term_word.f strings_IndexAny.f
  rw [if_pos ⟨rfl, by rw [B_size]; omega⟩, B_list, indexAny_seps]
  simp only [Option.bind_some, B_size]
  by_cases c : (l.takeWhile nsep).length = l.length
  · rw [if_pos c, if_pos (by omega), if_pos (by omega), if_pos (by omega)]
    have e1 := take_takeWhile l
    have e2 := drop_takeWhile l
    rw [c] at e1 e2
    rw [B_head, show ((l.length : Int)).toNat = l.length by omega, show l.length = (B l).size from (B_size l).symm, B_tail, B_size, e1, e2]
  · rw [if_neg c, if_neg (by omega), if_pos (by omega), if_pos (by omega)]
    rw [B_head, show (((l.takeWhile nsep).length : Int)).toNat = (l.takeWhile nsep).length by omega, show l.length = (B l).size from (B_size l).symm, B_tail, take_takeWhile, drop_takeWhile]

/-! numerals -/
def decC (d : List UInt8) : Option Nat := if (d.head? = some 48 → d.length = 1) ∧ d.length ≤ 6 then Lib.decNat d else none
def numC (w : List UInt8) : Option Int :=
  match w with
  | 45 :: d => (match decC d with | some x => if x ≠ 0 ∧ x ≤ 32768 then some (-(x : Int)) else none | none => none)
  | d => (match decC d with | some x => if x ≤ 32767 then some (x : Int) else none | none => none)
def tagC (w : List UInt8) : Option Int :=
  match w with
  | 64 :: d => (match decC d with | some x => if x ≤ 99 then some (x : Int) else none | none => none)
  | _ => none
/-! the document's digits -/
def p10 : Nat → Nat
  | 0 => 1
  | n + 1 => 10 * p10 n
theorem p10_le : ∀ {i : Nat}, i ≤ 6 → p10 i ≤ 1000000 := by
  intro i h
  rcases (show i = 0 ∨ i = 1 ∨ i = 2 ∨ i = 3 ∨ i = 4 ∨ i = 5 ∨ i = 6 by omega) with rfl | rfl | rfl | rfl | rfl | rfl | rfl <;> simp [p10]
def isDig (b : UInt8) : Bool := decide (48 ≤ b.toNat) && decide (b.toNat ≤ 57)
/-- from the k-th byte on, with x read: z: the first is a nought -/
def digL (z : Bool) : List UInt8 → Nat → Nat → Nat × Nat
  | [], x, k => (x, k)
  | b :: l, x, k => if k < 6 ∧ isDig b = true ∧ (k = 0 ∨ z = false) then digL z l (10 * x + (b.toNat - 48)) (k + 1) else (x, k)
theorem digL_bound (z : Bool) : ∀ l x k, x < p10 k → k ≤ 6 → (digL z l x k).1 < p10 (digL z l x k).2 ∧ (digL z l x k).2 ≤ 6
  | [], x, k => fun h h2 => ⟨h, h2⟩
  | b :: l, x, k => fun h h2 => by
    unfold digL
    by_cases c : k < 6 ∧ isDig b = true ∧ (k = 0 ∨ z = false)
    · rw [if_pos c]
      obtain ⟨c1, c2, _⟩ := c
      simp only [isDig, Bool.and_eq_true, decide_eq_true_eq] at c2
      exact digL_bound z l _ _ (by rw [p10]; omega) (by omega)
    · rw [if_neg c]; exact ⟨h, h2⟩
theorem digits_l0 (s : List UInt8) (hs : s.length ≤ 1024) (z : Bool) (hz : ∀ h : 0 < s.length, z = decide (s[0] = 48)) : ∀ (n i x : Nat), i + n = s.length → x < p10 i → i ≤ 6 → Ev (fun k => sleuthref1_digits.l0 k (B s) (x : Int) (i : Int)) (((digL z (s.drop i) x i).1 : Int), ((digL z (s.drop i) x i).2 : Int)) := by
  intro n
  induction n with
  | zero =>
    intro i x hi hx h6
    refine Ev.step (f := fun _ => some ((x : Int), (i : Int))) (fun k => ?_) ?_
    · simp only [sleuthref1_digits.l0, B_size]
      rw [if_neg (by omega)]
    · rw [List.drop_eq_nil_of_le (by omega)]; exact Ev.now _
  | succ n ih =>
    intro i x hi hx h6
    have hlt : i < s.length := by omega
    have hx6 : x < 1000000 := Nat.lt_of_lt_of_le hx (p10_le h6)
    rw [List.drop_eq_getElem_cons hlt]
    have hbt := B_bt s i hlt
    have hb255 := (s[i]).toNat_lt
    by_cases c : i < 6 ∧ isDig s[i] = true ∧ (i = 0 ∨ z = false)
    · rw [digL, if_pos c]
      obtain ⟨c1, c2, c3⟩ := c
      simp only [isDig, Bool.and_eq_true, decide_eq_true_eq] at c2
      have hp : 10 * x + ((s[i]).toNat - 48) < p10 (i + 1) := by rw [p10]; omega
      have hi1 : (i + 1) + n = s.length := by omega
      have hi2 : i + 1 ≤ 6 := by omega
      have e := ih (i + 1) (10 * x + ((s[i]).toNat - 48)) hi1 hp hi2
      refine Ev.step (f := fun k => sleuthref1_digits.l0 k (B s) ((10 * x + ((s[i]).toNat - 48) : Nat) : Int) ((i + 1 : Nat) : Int)) (fun k => ?_) e
      clear e hp ih
      simp only [sleuthref1_digits.l0, B_size, hbt]
      rw [if_pos (by omega), if_pos (by omega), if_pos (by omega), if_pos (by omega), if_pos (by omega)]
      rw [show wrap64 (10 * (x : Int)) = ((10 * x : Nat) : Int) by rw [w64 (by omega) (by omega)]; omega]
      rw [show wrap64 (((10 * x : Nat) : Int) + (((s[i]).toNat : Int) - 48) % 256) = ((10 * x + ((s[i]).toNat - 48) : Nat) : Int) by rw [w64 (by omega) (by omega)]; omega]
      rw [show wrap64 ((i : Int) + 1) = ((i + 1 : Nat) : Int) by rw [w64 (by omega) (by omega)]; omega]
      by_cases c0 : i = 0
      · rw [if_pos (by omega)]
      · rw [if_neg (by omega), if_pos (by omega)]
        have hz' := hz (by omega)
        rcases c3 with c3 | c3
        · exact absurd c3 c0
        · rw [c3] at hz'
          have h48 : ¬ s[0] = 48 := of_decide_eq_false hz'.symm
          have hb0 := B_bt s 0 (by omega)
          rw [if_neg (by rw [show (0 : Int) = ((0 : Nat) : Int) from rfl, hb0]; intro h; exact h48 (UInt8.toNat_inj.1 (by show (s[0]).toNat = 48; omega)))]
    · rw [digL, if_neg c]
      refine Ev.step (f := fun _ => some ((x : Int), (i : Int))) (fun k => ?_) (Ev.now _)
      simp only [sleuthref1_digits.l0, B_size, hbt]
      rw [if_pos (by omega)]
      by_cases c1 : i < 6
      · rw [if_pos (by omega), if_pos (by omega)]
        by_cases c2 : 48 ≤ (s[i]).toNat
        · rw [if_pos (by omega)]
          by_cases c3 : (s[i]).toNat ≤ 57
          · rw [if_pos (by omega)]
            have hd : isDig s[i] = true := by simp [isDig, c2, c3]
            have c4 : ¬ i = 0 ∧ z = true := by
              refine ⟨fun h => c ⟨c1, hd, .inl h⟩, ?_⟩
              cases hzz : z with
              | true => rfl
              | false => exact absurd ⟨c1, hd, .inr hzz⟩ c
            rw [if_neg (by omega), if_pos (by omega)]
            have hz' := hz (by omega)
            rw [c4.2] at hz'
            have h48 : s[0] = 48 := of_decide_eq_true hz'.symm
            have hb0 := B_bt s 0 (by omega)
            rw [if_pos (by rw [show (0 : Int) = ((0 : Nat) : Int) from rfl, hb0, h48]; rfl)]
          · rw [if_neg (by omega)]
        · rw [if_neg (by omega)]
      · rw [if_neg (by omega)]
def dig0 (l : List UInt8) : Nat × Nat := digL (l.head? == some 48) l 0 0
theorem digits_ev (s : List UInt8) (hs : s.length ≤ 1024) : Ev (fun k => sleuthref1_digits.f k (B s)) (((dig0 s).1 : Int), ((dig0 s).2 : Int)) := by
  have h := digits_l0 s hs (s.head? == some 48) (by
    intro h
    cases s with
    | nil => simp at h
    | cons a t => show (a == 48) = decide (a = 48); rfl) s.length 0 0 (by omega) (by decide) (by omega)
  exact h
theorem digVal_dig {b : UInt8} {d : Nat} (h : Lib.digitVal b = some d) : isDig b = true ∧ d = b.toNat - 48 := by
  unfold Lib.digitVal at h
  by_cases c : 48 ≤ b.toNat ∧ b.toNat ≤ 57
  · rw [if_pos c] at h
    exact ⟨by simp [isDig, c.1, c.2], (Option.some.inj h).symm⟩
  · rw [if_neg c] at h; cases h
theorem dig_digVal {b : UInt8} (h : isDig b = true) : Lib.digitVal b = some (b.toNat - 48) := by
  simp only [isDig, Bool.and_eq_true, decide_eq_true_eq] at h
  unfold Lib.digitVal
  rw [if_pos h]
theorem dig_nsep {b : UInt8} (h : isDig b = true) : nsep b = true := by
  cases hb : nsep b with
  | true => rfl
  | false =>
    simp only [nsep, Bool.not_eq_false', Bool.or_eq_true, beq_iff_eq] at hb
    rcases hb with (rfl | rfl) | rfl <;> simp [isDig] at h
theorem decFrom_cons {x : Nat} {b : UInt8} {p : List UInt8} {v : Nat} (h : Lib.decFrom x (b :: p) = some v) : isDig b = true ∧ Lib.decFrom (10 * x + (b.toNat - 48)) p = some v := by
  unfold Lib.decFrom at h
  cases hd : Lib.digitVal b with
  | none => rw [hd] at h; cases h
  | some d =>
    rw [hd] at h
    obtain ⟨h1, rfl⟩ := digVal_dig hd
    exact ⟨h1, by rw [Nat.mul_comm 10]; exact h⟩
theorem decFrom_mk {x : Nat} {b : UInt8} {p : List UInt8} (h : isDig b = true) : Lib.decFrom x (b :: p) = Lib.decFrom (10 * x + (b.toNat - 48)) p := by
  conv => lhs; unfold Lib.decFrom
  rw [dig_digVal h, Nat.mul_comm 10]
theorem decFrom_dig {p : List UInt8} : ∀ {x v : Nat}, Lib.decFrom x p = some v → ∀ b ∈ p, isDig b = true := by
  induction p with
  | nil => intro x v _ b hb; cases hb
  | cons a p ih =>
    intro x v h b hb
    obtain ⟨h1, h2⟩ := decFrom_cons h
    rcases List.mem_cons.1 hb with rfl | hb
    · exact h1
    · exact ih h2 b hb
theorem decFrom_append {p q : List UInt8} : ∀ {x : Nat}, Lib.decFrom x (p ++ q) = (Lib.decFrom x p).bind fun a => Lib.decFrom a q := by
  induction p with
  | nil => intro x; rfl
  | cons a p ih =>
    intro x
    show (match Lib.digitVal a with | some d => Lib.decFrom (x * 10 + d) (p ++ q) | none => none) = Option.bind (match Lib.digitVal a with | some d => Lib.decFrom (x * 10 + d) p | none => none) fun a => Lib.decFrom a q
    cases Lib.digitVal a with
    | none => rfl
    | some d => exact ih
theorem decFrom_ge {p : List UInt8} : ∀ {x v : Nat}, Lib.decFrom x p = some v → x ≤ v := by
  induction p with
  | nil => intro x v h; have := Option.some.inj h; omega
  | cons a p ih => intro x v h; have := ih (decFrom_cons h).2; omega
theorem digL_run (z : Bool) (r : List UInt8) (hr : ∀ b t, r = b :: t → isDig b = false) : ∀ (p : List UInt8) (x k v : Nat), Lib.decFrom x p = some v → k + p.length ≤ 6 → (z = true → p = [] ∨ (k = 0 ∧ p.length ≤ 1)) → digL z (p ++ r) x k = (v, k + p.length) := by
  intro p
  induction p with
  | nil =>
    intro x k v h _ _
    obtain rfl := Option.some.inj h
    cases r with
    | nil => rfl
    | cons b t =>
      show digL z (b :: t) x k = _
      rw [digL, if_neg (by rw [hr b t rfl]; simp)]
      rfl
  | cons a p ih =>
    intro x k v h hk hz
    obtain ⟨h1, h2⟩ := decFrom_cons h
    simp only [List.length_cons] at hk hz ⊢
    rw [List.cons_append, digL, if_pos, ih _ (k + 1) v h2 (by omega)]
    · rw [show k + 1 + p.length = k + (p.length + 1) by omega]
    · intro hzt
      rcases hz hzt with h | ⟨h, h'⟩
      · cases h
      · exact .inl (List.length_eq_zero_iff.1 (by omega))
    · refine ⟨by omega, h1, ?_⟩
      cases hzz : z with
      | false => exact .inr rfl
      | true =>
        rcases hz hzz with h | ⟨h, h'⟩
        · cases h
        · exact .inl h
theorem digL_facts (z : Bool) : ∀ (l : List UInt8) (x k : Nat), k ≤ 6 → ∃ m v, digL z l x k = (v, k + m) ∧ m ≤ l.length ∧ k + m ≤ 6 ∧ Lib.decFrom x (l.take m) = some v ∧ (z = true → m ≤ 1 - k) := by
  intro l
  induction l with
  | nil => intro x k hk; exact ⟨0, x, rfl, Nat.le_refl _, hk, rfl, fun _ => Nat.zero_le _⟩
  | cons a l ih =>
    intro x k hk
    by_cases c : k < 6 ∧ isDig a = true ∧ (k = 0 ∨ z = false)
    · obtain ⟨m, v, e1, e2, e3, e4, e5⟩ := ih (10 * x + (a.toNat - 48)) (k + 1) (by omega)
      refine ⟨m + 1, v, ?_, by simp only [List.length_cons]; omega, by omega, ?_, ?_⟩
      · rw [digL, if_pos c, e1, show k + 1 + m = k + (m + 1) by omega]
      · rw [List.take_succ_cons, decFrom_mk c.2.1]; exact e4
      · intro hz
        rcases c.2.2 with h | h
        · have := e5 hz; omega
        · rw [hz] at h; cases h
    · exact ⟨0, x, by rw [digL, if_neg c]; rfl, Nat.zero_le _, hk, rfl, fun _ => Nat.zero_le _⟩
theorem drop_head {l : List UInt8} : ∀ b t, l.dropWhile nsep = b :: t → nsep b = false := by
  induction l with
  | nil => intro b t h; cases h
  | cons a l ih =>
    intro b t h
    rw [List.dropWhile_cons] at h
    cases ha : nsep a with
    | true => rw [ha, if_pos rfl] at h; exact ih b t h
    | false =>
      rw [ha] at h
      simp only [Bool.false_eq_true, if_false, List.cons.injEq] at h
      rw [← h.1]; exact ha
theorem decNat_some {l : List UInt8} {v : Nat} (h : Lib.decNat l = some v) : l ≠ [] ∧ Lib.decFrom 0 l = some v := by
  unfold Lib.decNat at h
  cases l with
  | nil => cases h
  | cons a t => exact ⟨by simp, h⟩
theorem decC_some {d : List UInt8} {v : Nat} (h : decC d = some v) : d ≠ [] ∧ Lib.decFrom 0 d = some v ∧ (d.head? = some 48 → d.length = 1) ∧ d.length ≤ 6 := by
  unfold decC at h
  by_cases c : (d.head? = some 48 → d.length = 1) ∧ d.length ≤ 6
  · rw [if_pos c] at h
    obtain ⟨h1, h2⟩ := decNat_some h
    exact ⟨h1, h2, c⟩
  · rw [if_neg c] at h; cases h
theorem dig0_some {l : List UInt8} {v : Nat} (h : decC (l.takeWhile nsep) = some v) : dig0 l = (v, (l.takeWhile nsep).length) := by
  obtain ⟨h1, h2, h3, h4⟩ := decC_some h
  have hl : l.takeWhile nsep ++ l.dropWhile nsep = l := List.takeWhile_append_dropWhile
  have hr : ∀ b t, l.dropWhile nsep = b :: t → isDig b = false := by
    intro b t hb
    have := drop_head b t hb
    cases hd : isDig b with
    | false => rfl
    | true => rw [dig_nsep hd] at this; cases this
  have e := digL_run (l.head? == some 48) (l.dropWhile nsep) hr (l.takeWhile nsep) 0 0 v h2 (by omega) (by
    intro hz
    refine .inr ⟨rfl, ?_⟩
    have hz' : l.head? = some 48 := beq_iff_eq.1 hz
    have : (l.takeWhile nsep).head? = some 48 := by
      cases l with
      | nil => cases hz'
      | cons a t =>
        obtain rfl : a = 48 := by simpa using hz'
        rfl
    rw [h3 this]; exact Nat.le_refl _)
  rw [hl] at e
  rw [Nat.zero_add] at e
  exact e
theorem takeWhile_take (l : List UInt8) (m : Nat) (hd : ∀ b ∈ l.take m, nsep b = true) (hs : ∀ h : m < l.length, nsep l[m] = false) : l.takeWhile nsep = l.take m := by
  induction l generalizing m with
  | nil => simp
  | cons a l ih =>
    cases m with
    | zero =>
      have := hs (by simp)
      simp only [List.getElem_cons_zero] at this
      rw [List.takeWhile_cons, this]
      simp
    | succ m =>
      have ha : nsep a = true := hd a (by simp)
      rw [List.takeWhile_cons, ha, if_pos rfl, List.take_succ_cons, ih m (fun b hb => hd b (by simp [hb])) (fun h => by have := hs (by simpa using h); simpa using this)]
theorem dig0_none {l : List UInt8} (h : decC (l.takeWhile nsep) = none) : (dig0 l).2 = 0 ∨ ∃ hh : (dig0 l).2 < l.length, nsep (l[(dig0 l).2]) = true := by
  obtain ⟨m, v, e1, e2, e3, e4, e5⟩ := digL_facts (l.head? == some 48) l 0 0 (by omega)
  have e : dig0 l = (v, m) := by unfold dig0; rw [e1, Nat.zero_add]
  rw [e]
  by_cases c0 : m = 0
  · exact .inl c0
  · by_cases c1 : ∃ hh : m < l.length, nsep l[m] = true
    · exact .inr c1
    · exfalso
      have hw : l.takeWhile nsep = l.take m := takeWhile_take l m (fun b hb => dig_nsep (decFrom_dig e4 b hb)) (fun hh => by
        cases hb : nsep l[m] with
        | false => rfl
        | true => exact absurd ⟨hh, hb⟩ c1)
      have hlen : (l.take m).length = m := by rw [List.length_take]; omega
      have : decC (l.takeWhile nsep) = some v := by
        rw [hw]
        unfold decC
        rw [if_pos]
        · unfold Lib.decNat
          cases ht : l.take m with
          | nil => rw [ht] at hlen; exact absurd hlen.symm c0
          | cons a t => rw [← ht]; exact (by rw [ht] at e4 ⊢; exact e4)
        · refine ⟨?_, by omega⟩
          intro hh
          have hz : (l.head? == some 48) = true := by
            rw [beq_iff_eq]
            cases l with
            | nil => simp at hh
            | cons a t =>
              cases m with
              | zero => exact absurd rfl c0
              | succ m => simpa using hh
          have := e5 hz
          omega
      rw [this] at h; cases h
/-! numerals and their texts -/
theorem digK_val : ∀ (k n : Nat), n < p10 k → Lib.decFrom 0 (digK k n) = some n := by
  intro k
  induction k with
  | zero =>
    intro n h
    rw [p10] at h
    obtain rfl : n = 0 := (by omega)
    rfl
  | succ k ih =>
    intro n h
    rw [p10] at h
    have hd : ∀ m, m < 10 → isDig (UInt8.ofNat (48 + m)) = true ∧ (UInt8.ofNat (48 + m)).toNat = 48 + m := by
      intro m hm
      have : (UInt8.ofNat (48 + m)).toNat = 48 + m := by rw [UInt8.toNat_ofNat']; omega
      exact ⟨by simp only [isDig, this, Bool.and_eq_true, decide_eq_true_eq]; omega, this⟩
    unfold digK
    by_cases c : n < 10
    · rw [if_pos c, decFrom_mk (hd n c).1, (hd n c).2]
      show some _ = some _
      congr 1; omega
    · rw [if_neg c, decFrom_append, ih (n / 10) (by omega)]
      show Lib.decFrom (n / 10) [_] = _
      rw [decFrom_mk (hd (n % 10) (by omega)).1, (hd (n % 10) (by omega)).2]
      show some _ = some _
      congr 1; omega
theorem digK_ne (k n : Nat) (hk : 0 < k) : digK k n ≠ [] := by
  cases k with
  | zero => omega
  | succ k => unfold digK; split <;> simp
theorem digK_head : ∀ (k n : Nat), n < p10 k → 0 < n → (digK k n).head? ≠ some 48 := by
  intro k
  induction k with
  | zero => intro n h h0; rw [p10] at h; omega
  | succ k ih =>
    intro n h h0
    rw [p10] at h
    unfold digK
    by_cases c : n < 10
    · rw [if_pos c]
      intro hh
      have h1 : UInt8.ofNat (48 + n) = 48 := by simpa using hh
      have h2 : (UInt8.ofNat (48 + n)).toNat = 48 := by rw [h1]; rfl
      rw [UInt8.toNat_ofNat'] at h2
      omega
    · rw [if_neg c]
      have hk : 0 < k := by
        rcases Nat.eq_zero_or_pos k with rfl | hk
        · rw [p10] at h; omega
        · exact hk
      have := ih (n / 10) (by omega) (by omega)
      have hne := digK_ne k (n / 10) hk
      cases hc : digK k (n / 10) with
      | nil => exact absurd hc hne
      | cons a t => rw [hc] at this; simpa using this
theorem digK_len : ∀ (j k n : Nat), n < p10 (j + 1) → (digK k n).length ≤ j + 1 := by
  intro j
  induction j with
  | zero =>
    intro k n h
    simp only [p10] at h
    cases k with
    | zero => simp [digK]
    | succ k => rw [digK, if_pos (by omega)]; simp
  | succ j ih =>
    intro k n h
    cases k with
    | zero => simp [digK]
    | succ k =>
      rw [p10] at h
      rw [digK]
      by_cases c : n < 10
      · rw [if_pos c]; simp
      · rw [if_neg c, List.length_append]
        have := ih k (n / 10) (by omega)
        simp only [List.length_cons, List.length_nil]
        omega
theorem p10_mono : ∀ {i j : Nat}, i ≤ j → p10 i ≤ p10 j := by
  intro i j h
  induction h with
  | refl => exact Nat.le_refl _
  | step _ ih => rw [p10]; omega
theorem decC_digK (n : Nat) (h : n < 1000000) : decC (digK 20 n) = some n := by
  have h6 : n < p10 6 := by simp only [p10]; omega
  have h20 : n < p10 20 := Nat.lt_of_lt_of_le h6 (p10_mono (by omega))
  have hl := digK_len 5 20 n h6
  unfold decC
  rw [if_pos]
  · unfold Lib.decNat
    have hne := digK_ne 20 n (by omega)
    have := digK_val 20 n h20
    cases hc : digK 20 n with
    | nil => exact absurd hc hne
    | cons a t => rw [hc] at this; exact this
  · refine ⟨?_, by omega⟩
    intro hh
    rcases Nat.eq_zero_or_pos n with rfl | h0
    · rfl
    · exact absurd hh (digK_head 20 n h20 h0)
theorem digK_canon : ∀ (j : Nat) (d : List UInt8) (k v : Nat), d.length = j + 1 → j < k → (d.head? = some 48 → d.length = 1) → Lib.decFrom 0 d = some v → digK k v = d := by
  intro j
  induction j with
  | zero =>
    intro d k v hd hk _ h
    obtain ⟨a, rfl⟩ := List.length_eq_one_iff.1 hd
    obtain ⟨h1, h2⟩ := decFrom_cons h
    obtain rfl := Option.some.inj h2
    simp only [isDig, Bool.and_eq_true, decide_eq_true_eq] at h1
    cases k with
    | zero => omega
    | succ k =>
      rw [digK, if_pos (by omega)]
      congr 1
      apply UInt8.toNat_inj.1
      rw [UInt8.toNat_ofNat']
      omega
  | succ j ih =>
    intro d k v hd hk hh h
    have hne : d ≠ [] := by intro e; rw [e] at hd; simp at hd
    obtain ⟨p, b, rfl⟩ : ∃ p b, d = p ++ [b] := ⟨d.dropLast, d.getLast hne, (List.dropLast_concat_getLast hne).symm⟩
    have hp : p.length = j + 1 := by simpa using hd
    rw [decFrom_append] at h
    cases hy : Lib.decFrom 0 p with
    | none => rw [hy] at h; cases h
    | some y =>
      rw [hy] at h
      obtain ⟨h1, h2⟩ := decFrom_cons (show Lib.decFrom y [b] = some v from h)
      have h2 : 10 * y + (b.toNat - 48) = v := Option.some.inj h2
      simp only [isDig, Bool.and_eq_true, decide_eq_true_eq] at h1
      cases p with
      | nil => simp at hp
      | cons a t =>
        have ha : a ≠ 48 := by
          rintro rfl
          have := hh (by simp)
          simp at this
        obtain ⟨g1, g2⟩ := decFrom_cons hy
        simp only [isDig, Bool.and_eq_true, decide_eq_true_eq] at g1
        have ha' : a.toNat ≠ 48 := fun e => ha (UInt8.toNat_inj.1 e)
        have gy := decFrom_ge g2
        cases k with
        | zero => omega
        | succ k =>
          rw [digK, if_neg (by omega), show v / 10 = y by omega, ih (a :: t) k y hp (by omega) (fun e => absurd (by simpa using e) ha) hy]
          congr 1
          congr 1
          apply UInt8.toNat_inj.1
          rw [UInt8.toNat_ofNat']
          omega
theorem decC_text {d : List UInt8} {v : Nat} (h : decC d = some v) : digK 20 v = d := by
  obtain ⟨h1, h2, h3, h4⟩ := decC_some h
  have hlen : d.length ≠ 0 := fun e => h1 (List.length_eq_zero_iff.1 e)
  exact digK_canon (d.length - 1) d 20 v (by omega) (by omega) h3 h2
/-! what the program reads as a number, as a tag -/
theorem decC_lt {d : List UInt8} {v : Nat} (h : decC d = some v) : v < 1000000 := by
  obtain ⟨h1, h2, h3, h4⟩ := decC_some h
  obtain ⟨m, v', e1, e2, e3, e4, e5⟩ := digL_facts false d 0 0 (by omega)
  have e := digL_run false [] (fun b t hb => by cases hb) d 0 0 v h2 (by omega) (fun h => by cases h)
  have hb := digL_bound false d 0 0 (by decide) (by omega)
  rw [List.append_nil] at e
  rw [e] at hb
  exact Nat.lt_of_lt_of_le hb.1 (p10_le hb.2)
theorem atoi_plain {w : List UInt8} {v : Nat} (h : decC w = some v) : Lib.atoi w = some (v : Int) := by
  obtain ⟨h1, h2, h3, h4⟩ := decC_some h
  cases w with
  | nil => exact absurd rfl h1
  | cons b r =>
    have hd := (decFrom_cons h2).1
    simp only [isDig, Bool.and_eq_true, decide_eq_true_eq] at hd
    have n1 : (b == 45) = false := by rw [beq_eq_false_iff_ne]; rintro rfl; simp at hd
    have n2 : (b == 43) = false := by rw [beq_eq_false_iff_ne]; rintro rfl; simp at hd
    have : Lib.decNat (b :: r) = some v := h2
    show (if (b == 45) = true then (Lib.decNat r).map fun (m : Nat) => -(m : Int) else if (b == 43) = true then (Lib.decNat r).map fun (m : Nat) => (m : Int) else (Lib.decNat (b :: r)).map fun (m : Nat) => (m : Int)) = _
    rw [n1, n2, this]; rfl
theorem atoi_minus {w : List UInt8} {v : Nat} (h : decC w = some v) : Lib.atoi (45 :: w) = some (-(v : Int)) := by
  obtain ⟨h1, h2, h3, h4⟩ := decC_some h
  have : Lib.decNat w = some v := by
    cases w with
    | nil => exact absurd rfl h1
    | cons b r => exact h2
  show (Lib.decNat w).map (fun (m : Nat) => -(m : Int)) = _
  rw [this]; rfl
theorem digK_20 (n : Nat) (h : n < 1000000) : digK 20 n ≠ [] ∧ (digK 20 n).length ≤ 6 ∧ ∀ b ∈ digK 20 n, isDig b = true := by
  have := decC_digK n h
  obtain ⟨h1, h2, h3, h4⟩ := decC_some this
  exact ⟨h1, h4, decFrom_dig h2⟩
theorem numC_plain {w : List UInt8} (h : ∀ d, w ≠ 45 :: d) : numC w = match decC w with | some x => if x ≤ 32767 then some (x : Int) else none | none => none := by
  unfold numC
  split
  · rename_i d; exact absurd rfl (h d)
  · rfl
theorem num_some {w : List UInt8} {v : Int} (h : numC w = some v) : Lib.atoiAll w = .ok v ∧ itoaK v = w ∧ -32768 ≤ v ∧ v ≤ 32767 := by
  by_cases c : ∃ d, w = 45 :: d
  · obtain ⟨d, rfl⟩ := c
    have h : (match decC d with | some x => if x ≠ 0 ∧ x ≤ 32768 then some (-(x : Int)) else none | none => none) = some v := h
    cases hd : decC d with
    | none => rw [hd] at h; cases h
    | some x =>
      rw [hd] at h
      by_cases hx : x ≠ 0 ∧ x ≤ 32768
      · have h : (if x ≠ 0 ∧ x ≤ 32768 then some (-(x : Int)) else none) = some v := h
        rw [if_pos hx] at h
        obtain rfl := Option.some.inj h
        have hl := (decC_some hd).2.2.2
        refine ⟨?_, ?_, by omega, by omega⟩
        · rw [Lib.atoiAll_short _ (by simp only [List.length_cons]; omega), atoi_minus hd]; rfl
        · unfold itoaK
          rw [if_pos (by omega), show (-(x : Int)).natAbs = x by omega, decC_text hd]
      · have h : (if x ≠ 0 ∧ x ≤ 32768 then some (-(x : Int)) else none) = some v := h
        rw [if_neg hx] at h; cases h
  · rw [numC_plain (fun d e => c ⟨d, e⟩)] at h
    cases hd : decC w with
    | none => rw [hd] at h; cases h
    | some x =>
      rw [hd] at h
      have h : (if x ≤ 32767 then some (x : Int) else none) = some v := h
      by_cases hx : x ≤ 32767
      · rw [if_pos hx] at h
        obtain rfl := Option.some.inj h
        have hl := (decC_some hd).2.2.2
        refine ⟨?_, ?_, by omega, by omega⟩
        · rw [Lib.atoiAll_short _ (by omega), atoi_plain hd]; rfl
        · unfold itoaK
          rw [if_neg (by omega), show ((x : Int)).toNat = x by omega, decC_text hd]
      · rw [if_neg hx] at h; cases h
theorem dig_ne45 {d : List UInt8} {n : Nat} (h : n < 1000000) : digK 20 n ≠ 45 :: d := by
  intro e
  have := (digK_20 n h).2.2 45 (by rw [e]; simp)
  revert this; decide
theorem num_of (v : Int) (h0 : -32768 ≤ v) (h1 : v ≤ 32767) : numC (itoaK v) = some v := by
  unfold itoaK
  by_cases c : v < 0
  · rw [if_pos c]
    show (match decC (digK 20 v.natAbs) with | some x => if x ≠ 0 ∧ x ≤ 32768 then some (-(x : Int)) else none | none => none) = some v
    rw [decC_digK _ (by omega)]
    show (if v.natAbs ≠ 0 ∧ v.natAbs ≤ 32768 then some (-(v.natAbs : Int)) else none) = some v
    rw [if_pos (by omega)]
    congr 1; omega
  · rw [if_neg c, numC_plain (fun d => dig_ne45 (by omega)), decC_digK _ (by omega)]
    show (if v.toNat ≤ 32767 then some (v.toNat : Int) else none) = some v
    rw [if_pos (by omega)]
    congr 1; omega
theorem numF_some {w : List UInt8} {v : Int} (h : numC w = some v) : numF (B w) = (v, true) := by
  obtain ⟨h1, h2, h3, h4⟩ := num_some h
  unfold numF
  rw [B_list, h1]
  show (v, (decide (-32768 ≤ v) && decide (v ≤ 32767)) && itoaK v == w) = _
  rw [h2]
  show (v, (decide (-32768 ≤ v) && decide (v ≤ 32767)) && w == w) = _
  rw [decide_eq_true h3, decide_eq_true h4]
  simp
theorem numF_none {w : List UInt8} (h : numC w = none) : (numF (B w)).2 = false := by
  unfold numF
  rw [B_list]
  cases ha : Lib.atoiAll w
  case ok v =>
    show ((decide (-32768 ≤ v) && decide (v ≤ 32767)) && itoaK v == w) = false
    cases hc : ((decide (-32768 ≤ v) && decide (v ≤ 32767)) && itoaK v == w) with
    | false => rfl
    | true =>
      simp only [Bool.and_eq_true, decide_eq_true_eq, beq_iff_eq] at hc
      have := num_of v hc.1.1 hc.1.2
      rw [hc.2, h] at this; cases this
  all_goals rfl
theorem digF_some {d : List UInt8} {x : Nat} (h : decC d = some x) (hx : x ≤ 99) : digF (B d) 99 = ((x : Int), true) := by
  have hl := (decC_some h).2.2.2
  unfold digF
  rw [B_list, Lib.atoiAll_short _ (by omega), atoi_plain h]
  show ((x : Int), (decide (0 ≤ (x : Int)) && decide ((x : Int) ≤ 99)) && itoaK x == d) = _
  have e : itoaK (x : Int) = d := by
    unfold itoaK
    rw [if_neg (by omega), show ((x : Int)).toNat = x by omega, decC_text h]
  rw [e, decide_eq_true (by omega), decide_eq_true (by omega)]
  simp
theorem digF_true {d : List UInt8} (h : (digF (B d) 99).2 = true) : ∃ x, decC d = some x ∧ x ≤ 99 := by
  unfold digF at h
  rw [B_list] at h
  cases ha : Lib.atoiAll d
  case ok v =>
    rw [ha] at h
    have hc : ((decide (0 ≤ v) && decide (v ≤ 99)) && itoaK v == d) = true := h
    simp only [Bool.and_eq_true, decide_eq_true_eq, beq_iff_eq] at hc
    refine ⟨v.toNat, ?_, by omega⟩
    rw [← hc.2]
    unfold itoaK
    rw [if_neg (by omega)]
    exact decC_digK _ (by omega)
  all_goals (rw [ha] at h; cases h)
theorem number_eq (w : List UInt8) (hw : w.length ≤ 1024) : term_Number.f (B w) = some (numF (B w)) := by
  unfold term_Number.f
  rw [if_pos (by rw [B_size]; omega)]
theorem trim_at (w : List UInt8) : Lib.trimPrefix w [64] = (match w with | 64 :: d => d | d => d) ∧ Lib.hasPrefix w [64] = (match w with | 64 :: _ => true | _ => false) := by
  cases w with
  | nil => exact ⟨rfl, rfl⟩
  | cons b d =>
    by_cases c : b = 64
    · subst c; exact ⟨rfl, rfl⟩
    · have hp : Lib.hasPrefix (b :: d) [64] = false := by
        show ((64 : UInt8) == b && List.isPrefixOf [] d) = false
        rw [beq_eq_false_iff_ne.2 (fun e => c e.symm)]; rfl
      refine ⟨?_, ?_⟩
      · unfold Lib.trimPrefix
        rw [hp]
        split
        · rename_i e; exact absurd e (by simp)
        · split
          · rename_i e; exact absurd (List.cons.inj e).1 c
          · rfl
      · rw [hp]
        split
        · rename_i e; exact absurd (List.cons.inj e).1 c
        · rfl
theorem tag_some {w : List UInt8} {x : Int} (h : tagC w = some x) : term_Tag.f (B w) = some (x, true) := by
  unfold tagC at h
  split at h
  · rename_i d
    cases hd : decC d with
    | none => rw [hd] at h; cases h
    | some y =>
      rw [hd] at h
      have h : (if y ≤ 99 then some (y : Int) else none) = some x := h
      by_cases hy : y ≤ 99
      · rw [if_pos hy] at h
        obtain rfl := Option.some.inj h
        have hl := (decC_some hd).2.2.2
        unfold term_Tag.f strings_CutPrefix.f term_Digits.f
        simp only [Option.bind_some, B_list]
        rw [(trim_at _).1, (trim_at _).2]
        show ((if (B d).size ≤ 281474976710656 then some (digF (B d) 99) else none).bind _) = _
        rw [if_pos (by rw [B_size]; omega), digF_some hd hy]
        rfl
      · rw [if_neg hy] at h; cases h
  · cases h
theorem tag_none {w : List UInt8} (hw : w.length ≤ 1024) (h : tagC w = none) : ∃ x, term_Tag.f (B w) = some (x, false) := by
  unfold term_Tag.f strings_CutPrefix.f term_Digits.f
  simp only [Option.bind_some, B_list]
  rw [(trim_at _).1, (trim_at _).2]
  cases w with
  | nil => exact ⟨_, rfl⟩
  | cons b d =>
    by_cases c : b = 64
    · subst c
      show ∃ x, ((if (B d).size ≤ 281474976710656 then some (digF (B d) 99) else none).bind _) = _
      rw [if_pos (by rw [B_size]; simp only [List.length_cons] at hw; omega)]
      refine ⟨(digF (B d) 99).1, ?_⟩
      cases h2 : (digF (B d) 99).2 with
      | false => show some ((digF (B d) 99).1, (digF (B d) 99).2) = _; rw [h2]
      | true =>
        obtain ⟨x, hx, hx2⟩ := digF_true h2
        have h : (match decC d with | some x => if x ≤ 99 then some (x : Int) else none | none => none) = none := h
        rw [hx] at h
        have h : (if x ≤ 99 then some (x : Int) else none) = none := h
        rw [if_pos hx2] at h; cases h
    · have e1 : (match b :: d with | 64 :: d => d | d => d) = b :: d := by
        split
        · rename_i e; exact absurd (List.cons.inj e).1 c
        · rfl
      have e2 : (match b :: d with | 64 :: _ => true | _ => false) = false := by
        split
        · rename_i e; exact absurd (List.cons.inj e).1 c
        · rfl
      rw [e1, e2]
      show ∃ x, ((if (B (b :: d)).size ≤ 281474976710656 then some (digF (B (b :: d)) 99) else none).bind _) = _
      rw [if_pos (by rw [B_size]; omega)]
      exact ⟨_, rfl⟩
end Go.Proofs.YtnoehmpmkfkgfaaDoor.G
