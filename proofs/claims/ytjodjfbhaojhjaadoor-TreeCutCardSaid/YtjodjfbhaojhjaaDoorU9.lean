/- Parts of this proof, one behind the other: TLaw, TCut, TRef, TMay, G24, TTrail, TNodes, TreeMath, TreeVals, TRows, TreeWake. -/
import Derived.Test.YtjodjfbhaojhjaaDoorU8
import Derived.Test.YtjodjfbhaojhjaaDoorU6
import Derived.Test.YtjodjfbhaojhjaaDoorG0
import Derived.Test.YtjodjfbhaojhjaaDoorU7
section
namespace Go.Proofs.YtjodjfbhaojhjaaDoor.G
open Go.RowKit Go.Proofs.YtjodjfbhaojhjaaDoorW.PrintWords Go.Proofs.YtjodjfbhaojhjaaDoorW.PrintLast Go.Proofs.YtjodjfbhaojhjaaDoorW.PrintMore
set_option linter.unusedVariables false
set_option linter.unusedSimpArgs false
theorem w64 {x : Int} (h0 : -9223372036854775808 ≤ x) (h1 : x ≤ 9223372036854775807) : wrap64 x = x := by unfold wrap64; omega

abbrev B (l : List UInt8) : ByteArray := ⟨l.toArray⟩
theorem B_data (s : ByteArray) : B s.data.toList = s := by cases s; rfl
theorem B_size (l : List UInt8) : (B l).size = l.length := by simp [ByteArray.size]
theorem B_list (l : List UInt8) : (B l).data.toList = l := rfl
theorem B_toList (l : List UInt8) : (B l).toList = l := by rw [Lib.toList_data]
theorem B_extract (l : List UInt8) (i j : Nat) : (B l).extract i j = B ((l.take j).drop i) := by
  rw [← B_data ((B l).extract i j)]
  congr 1
  simp only [ByteArray.data_extract, Array.toList_extract, List.extract_eq_drop_take']
theorem B_tail (l : List UInt8) (i : Nat) : (B l).extract i (B l).size = B (l.drop i) := by
  rw [B_extract, B_size, List.take_length]
theorem B_head (l : List UInt8) (j : Nat) : (B l).extract 0 j = B (l.take j) := by rw [B_extract]; rfl
theorem B_bt (l : List UInt8) (i : Nat) (h : i < l.length) : bt (B l) (i : Int) = (l[i].toNat : Int) := by
  unfold bt
  have h' : (i : Int).toNat < (B l).size := by rw [B_size]; omega
  rw [dif_pos h']
  rfl
def nsep (b : UInt8) : Bool := !(b == 32 || b == 40 || b == 41)
theorem seps_contains (b : UInt8) : seps.data.toList.contains b = !nsep b := by
  show [(32 : UInt8), 40, 41].contains b = _
  unfold nsep
  simp [Bool.or_assoc]
  rfl
theorem indexAny_seps : ∀ l : List UInt8, Lib.indexAny l seps.data.toList = if (l.takeWhile nsep).length = l.length then -1 else ((l.takeWhile nsep).length : Int)
  | [] => rfl
  | b :: l => by
    unfold Lib.indexAny
    rw [seps_contains, indexAny_seps l]
    cases hb : nsep b with
    | false => simp [List.takeWhile_cons, hb]
    | true =>
      have hle : (l.takeWhile nsep).length ≤ l.length := (List.takeWhile_prefix nsep).length_le
      simp only [List.takeWhile_cons, hb, Bool.not_true, if_true, List.length_cons, Bool.false_eq_true, if_false]
      by_cases c : (l.takeWhile nsep).length = l.length
      · rw [if_pos c, if_pos (show ((-1 : Int) == -1) = true from rfl), if_pos (by rw [c])]
      · have : ¬ ((((l.takeWhile nsep).length : Int) == -1) = true) := by rw [beq_iff_eq]; omega
        rw [if_neg c, if_neg this, if_neg (fun h => c (Nat.succ.inj h))]; rfl
theorem take_takeWhile : ∀ l : List UInt8, l.take (l.takeWhile nsep).length = l.takeWhile nsep
  | [] => rfl
  | b :: l => by
    cases hb : nsep b with
    | false => simp [List.takeWhile_cons, hb]
    | true => simp [List.takeWhile_cons, hb, take_takeWhile l]
theorem drop_takeWhile : ∀ l : List UInt8, l.drop (l.takeWhile nsep).length = l.dropWhile nsep
  | [] => rfl
  | b :: l => by
    cases hb : nsep b with
    | false => simp [List.takeWhile_cons, hb]
    | true => simp [List.takeWhile_cons, hb, drop_takeWhile l]
theorem word_eq (l : List UInt8) (hl : l.length ≤ 1024) : term_word.f (B l) = some (B (l.takeWhile nsep), B (l.dropWhile nsep)) := by
  have hle : (l.takeWhile nsep).length ≤ l.length := (List.takeWhile_prefix nsep).length_le
  unfold term_word.f strings_IndexAny.f
  rw [if_pos ⟨rfl, by rw [B_size]; omega⟩, B_list, indexAny_seps]
  simp only [Option.bind_some, B_size]
  by_cases c : (l.takeWhile nsep).length = l.length
  · rw [if_pos c, if_pos (by omega), if_pos (by omega), if_pos (by omega)]
    have e1 := take_takeWhile l
    have e2 := drop_takeWhile l
    rw [c] at e1 e2
    rw [B_head, show ((l.length : Int)).toNat = l.length by omega, show l.length = (B l).size from (B_size l).symm, B_tail, B_size, e1, e2]
  · rw [if_neg c, if_neg (by omega), if_pos (by omega), if_pos (by omega)]
    rw [B_head, show (((l.takeWhile nsep).length : Int)).toNat = (l.takeWhile nsep).length by omega, show l.length = (B l).size from (B_size l).symm, B_tail, take_takeWhile, drop_takeWhile]

def decC (d : List UInt8) : Option Nat := if (d.head? = some 48 → d.length = 1) ∧ d.length ≤ 6 then Lib.decNat d else none
def numC (w : List UInt8) : Option Int :=
  match w with
  | 45 :: d => (match decC d with | some x => if x ≠ 0 ∧ x ≤ 32768 then some (-(x : Int)) else none | none => none)
  | d => (match decC d with | some x => if x ≤ 32767 then some (x : Int) else none | none => none)
def tagC (w : List UInt8) : Option Int :=
  match w with
  | 64 :: d => (match decC d with | some x => if x ≤ 99 then some (x : Int) else none | none => none)
  | _ => none
def p10 : Nat → Nat
  | 0 => 1
  | n + 1 => 10 * p10 n
theorem p10_le : ∀ {i : Nat}, i ≤ 6 → p10 i ≤ 1000000 := by
  intro i h
  rcases (show i = 0 ∨ i = 1 ∨ i = 2 ∨ i = 3 ∨ i = 4 ∨ i = 5 ∨ i = 6 by omega) with rfl | rfl | rfl | rfl | rfl | rfl | rfl <;> simp [p10]
def isDig (b : UInt8) : Bool := decide (48 ≤ b.toNat) && decide (b.toNat ≤ 57)
/-- from the k-th byte on, with x read: z: the first is a nought -/
def digL (z : Bool) : List UInt8 → Nat → Nat → Nat × Nat
  | [], x, k => (x, k)
  | b :: l, x, k => if k < 6 ∧ isDig b = true ∧ (k = 0 ∨ z = false) then digL z l (10 * x + (b.toNat - 48)) (k + 1) else (x, k)
theorem digL_bound (z : Bool) : ∀ l x k, x < p10 k → k ≤ 6 → (digL z l x k).1 < p10 (digL z l x k).2 ∧ (digL z l x k).2 ≤ 6
  | [], x, k => fun h h2 => ⟨h, h2⟩
  | b :: l, x, k => fun h h2 => by
    unfold digL
    by_cases c : k < 6 ∧ isDig b = true ∧ (k = 0 ∨ z = false)
    · rw [if_pos c]
      obtain ⟨c1, c2, _⟩ := c
      simp only [isDig, Bool.and_eq_true, decide_eq_true_eq] at c2
      exact digL_bound z l _ _ (by rw [p10]; omega) (by omega)
    · rw [if_neg c]; exact ⟨h, h2⟩
theorem digits_l0 (s : List UInt8) (hs : s.length ≤ 1024) (z : Bool) (hz : ∀ h : 0 < s.length, z = decide (s[0] = 48)) : ∀ (n i x : Nat), i + n = s.length → x < p10 i → i ≤ 6 → Ev (fun k => sleuthref1_digits.l0 k (B s) (x : Int) (i : Int)) (((digL z (s.drop i) x i).1 : Int), ((digL z (s.drop i) x i).2 : Int)) := by
  intro n
  induction n with
  | zero =>
    intro i x hi hx h6
    refine Ev.step (f := fun _ => some ((x : Int), (i : Int))) (fun k => ?_) ?_
    · simp only [sleuthref1_digits.l0, B_size]
      rw [if_neg (by omega)]
    · rw [List.drop_eq_nil_of_le (by omega)]; exact Ev.now _
  | succ n ih =>
    intro i x hi hx h6
    have hlt : i < s.length := by omega
    have hx6 : x < 1000000 := Nat.lt_of_lt_of_le hx (p10_le h6)
    rw [List.drop_eq_getElem_cons hlt]
    have hbt := B_bt s i hlt
    have hb255 := (s[i]).toNat_lt
    by_cases c : i < 6 ∧ isDig s[i] = true ∧ (i = 0 ∨ z = false)
    · rw [digL, if_pos c]
      obtain ⟨c1, c2, c3⟩ := c
      simp only [isDig, Bool.and_eq_true, decide_eq_true_eq] at c2
      have hp : 10 * x + ((s[i]).toNat - 48) < p10 (i + 1) := by rw [p10]; omega
      have hi1 : (i + 1) + n = s.length := by omega
      have hi2 : i + 1 ≤ 6 := by omega
      have e := ih (i + 1) (10 * x + ((s[i]).toNat - 48)) hi1 hp hi2
      refine Ev.step (f := fun k => sleuthref1_digits.l0 k (B s) ((10 * x + ((s[i]).toNat - 48) : Nat) : Int) ((i + 1 : Nat) : Int)) (fun k => ?_) e
      clear e hp ih
      simp only [sleuthref1_digits.l0, B_size, hbt]
      rw [if_pos (by omega), if_pos (by omega), if_pos (by omega), if_pos (by omega), if_pos (by omega)]
      rw [show wrap64 (10 * (x : Int)) = ((10 * x : Nat) : Int) by rw [w64 (by omega) (by omega)]; omega]
      rw [show wrap64 (((10 * x : Nat) : Int) + (((s[i]).toNat : Int) - 48) % 256) = ((10 * x + ((s[i]).toNat - 48) : Nat) : Int) by rw [w64 (by omega) (by omega)]; omega]
      rw [show wrap64 ((i : Int) + 1) = ((i + 1 : Nat) : Int) by rw [w64 (by omega) (by omega)]; omega]
      by_cases c0 : i = 0
      · rw [if_pos (by omega)]
      · rw [if_neg (by omega), if_pos (by omega)]
        have hz' := hz (by omega)
        rcases c3 with c3 | c3
        · exact absurd c3 c0
        · rw [c3] at hz'
          have h48 : ¬ s[0] = 48 := of_decide_eq_false hz'.symm
          have hb0 := B_bt s 0 (by omega)
          rw [if_neg (by rw [show (0 : Int) = ((0 : Nat) : Int) from rfl, hb0]; intro h; exact h48 (UInt8.toNat_inj.1 (by show (s[0]).toNat = 48; omega)))]
    · rw [digL, if_neg c]
      refine Ev.step (f := fun _ => some ((x : Int), (i : Int))) (fun k => ?_) (Ev.now _)
      simp only [sleuthref1_digits.l0, B_size, hbt]
      rw [if_pos (by omega)]
      by_cases c1 : i < 6
      · rw [if_pos (by omega), if_pos (by omega)]
        by_cases c2 : 48 ≤ (s[i]).toNat
        · rw [if_pos (by omega)]
          by_cases c3 : (s[i]).toNat ≤ 57
          · rw [if_pos (by omega)]
            have hd : isDig s[i] = true := by simp [isDig, c2, c3]
            have c4 : ¬ i = 0 ∧ z = true := by
              refine ⟨fun h => c ⟨c1, hd, .inl h⟩, ?_⟩
              cases hzz : z with
              | true => rfl
              | false => exact absurd ⟨c1, hd, .inr hzz⟩ c
            rw [if_neg (by omega), if_pos (by omega)]
            have hz' := hz (by omega)
            rw [c4.2] at hz'
            have h48 : s[0] = 48 := of_decide_eq_true hz'.symm
            have hb0 := B_bt s 0 (by omega)
            rw [if_pos (by rw [show (0 : Int) = ((0 : Nat) : Int) from rfl, hb0, h48]; rfl)]
          · rw [if_neg (by omega)]
        · rw [if_neg (by omega)]
      · rw [if_neg (by omega)]
def dig0 (l : List UInt8) : Nat × Nat := digL (l.head? == some 48) l 0 0
theorem digits_ev (s : List UInt8) (hs : s.length ≤ 1024) : Ev (fun k => sleuthref1_digits.f k (B s)) (((dig0 s).1 : Int), ((dig0 s).2 : Int)) := by
  have h := digits_l0 s hs (s.head? == some 48) (by
    intro h
    cases s with
    | nil => simp at h
    | cons a t => show (a == 48) = decide (a = 48); rfl) s.length 0 0 (by omega) (by decide) (by omega)
  exact h
theorem digVal_dig {b : UInt8} {d : Nat} (h : Lib.digitVal b = some d) : isDig b = true ∧ d = b.toNat - 48 := by
  unfold Lib.digitVal at h
  by_cases c : 48 ≤ b.toNat ∧ b.toNat ≤ 57
  · rw [if_pos c] at h
    exact ⟨by simp [isDig, c.1, c.2], (Option.some.inj h).symm⟩
  · rw [if_neg c] at h; cases h
theorem dig_digVal {b : UInt8} (h : isDig b = true) : Lib.digitVal b = some (b.toNat - 48) := by
  simp only [isDig, Bool.and_eq_true, decide_eq_true_eq] at h
  unfold Lib.digitVal
  rw [if_pos h]
theorem dig_nsep {b : UInt8} (h : isDig b = true) : nsep b = true := by
  cases hb : nsep b with
  | true => rfl
  | false =>
    simp only [nsep, Bool.not_eq_false', Bool.or_eq_true, beq_iff_eq] at hb
    rcases hb with (rfl | rfl) | rfl <;> simp [isDig] at h
theorem decFrom_cons {x : Nat} {b : UInt8} {p : List UInt8} {v : Nat} (h : Lib.decFrom x (b :: p) = some v) : isDig b = true ∧ Lib.decFrom (10 * x + (b.toNat - 48)) p = some v := by
  unfold Lib.decFrom at h
  cases hd : Lib.digitVal b with
  | none => rw [hd] at h; cases h
  | some d =>
    rw [hd] at h
    obtain ⟨h1, rfl⟩ := digVal_dig hd
    exact ⟨h1, by rw [Nat.mul_comm 10]; exact h⟩
theorem decFrom_mk {x : Nat} {b : UInt8} {p : List UInt8} (h : isDig b = true) : Lib.decFrom x (b :: p) = Lib.decFrom (10 * x + (b.toNat - 48)) p := by
  conv => lhs; unfold Lib.decFrom
  rw [dig_digVal h, Nat.mul_comm 10]
theorem decFrom_dig {p : List UInt8} : ∀ {x v : Nat}, Lib.decFrom x p = some v → ∀ b ∈ p, isDig b = true := by
  induction p with
  | nil => intro x v _ b hb; cases hb
  | cons a p ih =>
    intro x v h b hb
    obtain ⟨h1, h2⟩ := decFrom_cons h
    rcases List.mem_cons.1 hb with rfl | hb
    · exact h1
    · exact ih h2 b hb
theorem decFrom_append {p q : List UInt8} : ∀ {x : Nat}, Lib.decFrom x (p ++ q) = (Lib.decFrom x p).bind fun a => Lib.decFrom a q := by
  induction p with
  | nil => intro x; rfl
  | cons a p ih =>
    intro x
    show (match Lib.digitVal a with | some d => Lib.decFrom (x * 10 + d) (p ++ q) | none => none) = Option.bind (match Lib.digitVal a with | some d => Lib.decFrom (x * 10 + d) p | none => none) fun a => Lib.decFrom a q
    cases Lib.digitVal a with
    | none => rfl
    | some d => exact ih
theorem decFrom_ge {p : List UInt8} : ∀ {x v : Nat}, Lib.decFrom x p = some v → x ≤ v := by
  induction p with
  | nil => intro x v h; have := Option.some.inj h; omega
  | cons a p ih => intro x v h; have := ih (decFrom_cons h).2; omega
theorem digL_run (z : Bool) (r : List UInt8) (hr : ∀ b t, r = b :: t → isDig b = false) : ∀ (p : List UInt8) (x k v : Nat), Lib.decFrom x p = some v → k + p.length ≤ 6 → (z = true → p = [] ∨ (k = 0 ∧ p.length ≤ 1)) → digL z (p ++ r) x k = (v, k + p.length) := by
  intro p
  induction p with
  | nil =>
    intro x k v h _ _
    obtain rfl := Option.some.inj h
    cases r with
    | nil => rfl
    | cons b t =>
      show digL z (b :: t) x k = _
      rw [digL, if_neg (by rw [hr b t rfl]; simp)]
      rfl
  | cons a p ih =>
    intro x k v h hk hz
    obtain ⟨h1, h2⟩ := decFrom_cons h
    simp only [List.length_cons] at hk hz ⊢
    rw [List.cons_append, digL, if_pos, ih _ (k + 1) v h2 (by omega)]
    · rw [show k + 1 + p.length = k + (p.length + 1) by omega]
    · intro hzt
      rcases hz hzt with h | ⟨h, h'⟩
      · cases h
      · exact .inl (List.length_eq_zero_iff.1 (by omega))
    · refine ⟨by omega, h1, ?_⟩
      cases hzz : z with
      | false => exact .inr rfl
      | true =>
        rcases hz hzz with h | ⟨h, h'⟩
        · cases h
        · exact .inl h
theorem digL_facts (z : Bool) : ∀ (l : List UInt8) (x k : Nat), k ≤ 6 → ∃ m v, digL z l x k = (v, k + m) ∧ m ≤ l.length ∧ k + m ≤ 6 ∧ Lib.decFrom x (l.take m) = some v ∧ (z = true → m ≤ 1 - k) := by
  intro l
  induction l with
  | nil => intro x k hk; exact ⟨0, x, rfl, Nat.le_refl _, hk, rfl, fun _ => Nat.zero_le _⟩
  | cons a l ih =>
    intro x k hk
    by_cases c : k < 6 ∧ isDig a = true ∧ (k = 0 ∨ z = false)
    · obtain ⟨m, v, e1, e2, e3, e4, e5⟩ := ih (10 * x + (a.toNat - 48)) (k + 1) (by omega)
      refine ⟨m + 1, v, ?_, by simp only [List.length_cons]; omega, by omega, ?_, ?_⟩
      · rw [digL, if_pos c, e1, show k + 1 + m = k + (m + 1) by omega]
      · rw [List.take_succ_cons, decFrom_mk c.2.1]; exact e4
      · intro hz
        rcases c.2.2 with h | h
        · have := e5 hz; omega
        · rw [hz] at h; cases h
    · exact ⟨0, x, by rw [digL, if_neg c]; rfl, Nat.zero_le _, hk, rfl, fun _ => Nat.zero_le _⟩
theorem drop_head {l : List UInt8} : ∀ b t, l.dropWhile nsep = b :: t → nsep b = false := by
  induction l with
  | nil => intro b t h; cases h
  | cons a l ih =>
    intro b t h
    rw [List.dropWhile_cons] at h
    cases ha : nsep a with
    | true => rw [ha, if_pos rfl] at h; exact ih b t h
    | false =>
      rw [ha] at h
      simp only [Bool.false_eq_true, if_false, List.cons.injEq] at h
      rw [← h.1]; exact ha
theorem decNat_some {l : List UInt8} {v : Nat} (h : Lib.decNat l = some v) : l ≠ [] ∧ Lib.decFrom 0 l = some v := by
  unfold Lib.decNat at h
  cases l with
  | nil => cases h
  | cons a t => exact ⟨by simp, h⟩
theorem decC_some {d : List UInt8} {v : Nat} (h : decC d = some v) : d ≠ [] ∧ Lib.decFrom 0 d = some v ∧ (d.head? = some 48 → d.length = 1) ∧ d.length ≤ 6 := by
  unfold decC at h
  by_cases c : (d.head? = some 48 → d.length = 1) ∧ d.length ≤ 6
  · rw [if_pos c] at h
    obtain ⟨h1, h2⟩ := decNat_some h
    exact ⟨h1, h2, c⟩
  · rw [if_neg c] at h; cases h
theorem dig0_some {l : List UInt8} {v : Nat} (h : decC (l.takeWhile nsep) = some v) : dig0 l = (v, (l.takeWhile nsep).length) := by
  obtain ⟨h1, h2, h3, h4⟩ := decC_some h
  have hl : l.takeWhile nsep ++ l.dropWhile nsep = l := List.takeWhile_append_dropWhile
  have hr : ∀ b t, l.dropWhile nsep = b :: t → isDig b = false := by
    intro b t hb
    have := drop_head b t hb
    cases hd : isDig b with
    | false => rfl
    | true => rw [dig_nsep hd] at this; cases this
  have e := digL_run (l.head? == some 48) (l.dropWhile nsep) hr (l.takeWhile nsep) 0 0 v h2 (by omega) (by
    intro hz
    refine .inr ⟨rfl, ?_⟩
    have hz' : l.head? = some 48 := beq_iff_eq.1 hz
    have : (l.takeWhile nsep).head? = some 48 := by
      cases l with
      | nil => cases hz'
      | cons a t =>
        obtain rfl : a = 48 := by simpa using hz'
        rfl
    rw [h3 this]; exact Nat.le_refl _)
  rw [hl] at e
  rw [Nat.zero_add] at e
  exact e
theorem takeWhile_take (l : List UInt8) (m : Nat) (hd : ∀ b ∈ l.take m, nsep b = true) (hs : ∀ h : m < l.length, nsep l[m] = false) : l.takeWhile nsep = l.take m := by
  induction l generalizing m with
  | nil => simp
  | cons a l ih =>
    cases m with
    | zero =>
      have := hs (by simp)
      simp only [List.getElem_cons_zero] at this
      rw [List.takeWhile_cons, this]
      simp
    | succ m =>
      have ha : nsep a = true := hd a (by simp)
      rw [List.takeWhile_cons, ha, if_pos rfl, List.take_succ_cons, ih m (fun b hb => hd b (by simp [hb])) (fun h => by have := hs (by simpa using h); simpa using this)]
theorem dig0_none {l : List UInt8} (h : decC (l.takeWhile nsep) = none) : (dig0 l).2 = 0 ∨ ∃ hh : (dig0 l).2 < l.length, nsep (l[(dig0 l).2]) = true := by
  obtain ⟨m, v, e1, e2, e3, e4, e5⟩ := digL_facts (l.head? == some 48) l 0 0 (by omega)
  have e : dig0 l = (v, m) := by unfold dig0; rw [e1, Nat.zero_add]
  rw [e]
  by_cases c0 : m = 0
  · exact .inl c0
  · by_cases c1 : ∃ hh : m < l.length, nsep l[m] = true
    · exact .inr c1
    · exfalso
      have hw : l.takeWhile nsep = l.take m := takeWhile_take l m (fun b hb => dig_nsep (decFrom_dig e4 b hb)) (fun hh => by
        cases hb : nsep l[m] with
        | false => rfl
        | true => exact absurd ⟨hh, hb⟩ c1)
      have hlen : (l.take m).length = m := by rw [List.length_take]; omega
      have : decC (l.takeWhile nsep) = some v := by
        rw [hw]
        unfold decC
        rw [if_pos]
        · unfold Lib.decNat
          cases ht : l.take m with
          | nil => rw [ht] at hlen; exact absurd hlen.symm c0
          | cons a t => rw [← ht]; exact (by rw [ht] at e4 ⊢; exact e4)
        · refine ⟨?_, by omega⟩
          intro hh
          have hz : (l.head? == some 48) = true := by
            rw [beq_iff_eq]
            cases l with
            | nil => simp at hh
            | cons a t =>
              cases m with
              | zero => exact absurd rfl c0
              | succ m => simpa using hh
          have := e5 hz
          omega
      rw [this] at h; cases h
theorem digK_val : ∀ (k n : Nat), n < p10 k → Lib.decFrom 0 (digK k n) = some n := by
  intro k
  induction k with
  | zero =>
    intro n h
    rw [p10] at h
    obtain rfl : n = 0 := (by omega)
    rfl
  | succ k ih =>
    intro n h
    rw [p10] at h
    have hd : ∀ m, m < 10 → isDig (UInt8.ofNat (48 + m)) = true ∧ (UInt8.ofNat (48 + m)).toNat = 48 + m := by
      intro m hm
      have : (UInt8.ofNat (48 + m)).toNat = 48 + m := by rw [UInt8.toNat_ofNat']; omega
      exact ⟨by simp only [isDig, this, Bool.and_eq_true, decide_eq_true_eq]; omega, this⟩
    unfold digK
    by_cases c : n < 10
    · rw [if_pos c, decFrom_mk (hd n c).1, (hd n c).2]
      show some _ = some _
      congr 1; omega
    · rw [if_neg c, decFrom_append, ih (n / 10) (by omega)]
      show Lib.decFrom (n / 10) [_] = _
      rw [decFrom_mk (hd (n % 10) (by omega)).1, (hd (n % 10) (by omega)).2]
      show some _ = some _
      congr 1; omega
theorem digK_ne (k n : Nat) (hk : 0 < k) : digK k n ≠ [] := by
  cases k with
  | zero => omega
  | succ k => unfold digK; split <;> simp
theorem digK_head : ∀ (k n : Nat), n < p10 k → 0 < n → (digK k n).head? ≠ some 48 := by
  intro k
  induction k with
  | zero => intro n h h0; rw [p10] at h; omega
  | succ k ih =>
    intro n h h0
    rw [p10] at h
    unfold digK
    by_cases c : n < 10
    · rw [if_pos c]
      intro hh
      have h1 : UInt8.ofNat (48 + n) = 48 := by simpa using hh
      have h2 : (UInt8.ofNat (48 + n)).toNat = 48 := by rw [h1]; rfl
      rw [UInt8.toNat_ofNat'] at h2
      omega
    · rw [if_neg c]
      have hk : 0 < k := by
        rcases Nat.eq_zero_or_pos k with rfl | hk
        · rw [p10] at h; omega
        · exact hk
      have := ih (n / 10) (by omega) (by omega)
      have hne := digK_ne k (n / 10) hk
      cases hc : digK k (n / 10) with
      | nil => exact absurd hc hne
      | cons a t => rw [hc] at this; simpa using this
theorem digK_len : ∀ (j k n : Nat), n < p10 (j + 1) → (digK k n).length ≤ j + 1 := by
  intro j
  induction j with
  | zero =>
    intro k n h
    simp only [p10] at h
    cases k with
    | zero => simp [digK]
    | succ k => rw [digK, if_pos (by omega)]; simp
  | succ j ih =>
    intro k n h
    cases k with
    | zero => simp [digK]
    | succ k =>
      rw [p10] at h
      rw [digK]
      by_cases c : n < 10
      · rw [if_pos c]; simp
      · rw [if_neg c, List.length_append]
        have := ih k (n / 10) (by omega)
        simp only [List.length_cons, List.length_nil]
        omega
theorem p10_mono : ∀ {i j : Nat}, i ≤ j → p10 i ≤ p10 j := by
  intro i j h
  induction h with
  | refl => exact Nat.le_refl _
  | step _ ih => rw [p10]; omega
theorem decC_digK (n : Nat) (h : n < 1000000) : decC (digK 20 n) = some n := by
  have h6 : n < p10 6 := by simp only [p10]; omega
  have h20 : n < p10 20 := Nat.lt_of_lt_of_le h6 (p10_mono (by omega))
  have hl := digK_len 5 20 n h6
  unfold decC
  rw [if_pos]
  · unfold Lib.decNat
    have hne := digK_ne 20 n (by omega)
    have := digK_val 20 n h20
    cases hc : digK 20 n with
    | nil => exact absurd hc hne
    | cons a t => rw [hc] at this; exact this
  · refine ⟨?_, by omega⟩
    intro hh
    rcases Nat.eq_zero_or_pos n with rfl | h0
    · rfl
    · exact absurd hh (digK_head 20 n h20 h0)
theorem digK_canon : ∀ (j : Nat) (d : List UInt8) (k v : Nat), d.length = j + 1 → j < k → (d.head? = some 48 → d.length = 1) → Lib.decFrom 0 d = some v → digK k v = d := by
  intro j
  induction j with
  | zero =>
    intro d k v hd hk _ h
    obtain ⟨a, rfl⟩ := List.length_eq_one_iff.1 hd
    obtain ⟨h1, h2⟩ := decFrom_cons h
    obtain rfl := Option.some.inj h2
    simp only [isDig, Bool.and_eq_true, decide_eq_true_eq] at h1
    cases k with
    | zero => omega
    | succ k =>
      rw [digK, if_pos (by omega)]
      congr 1
      apply UInt8.toNat_inj.1
      rw [UInt8.toNat_ofNat']
      omega
  | succ j ih =>
    intro d k v hd hk hh h
    have hne : d ≠ [] := by intro e; rw [e] at hd; simp at hd
    obtain ⟨p, b, rfl⟩ : ∃ p b, d = p ++ [b] := ⟨d.dropLast, d.getLast hne, (List.dropLast_concat_getLast hne).symm⟩
    have hp : p.length = j + 1 := by simpa using hd
    rw [decFrom_append] at h
    cases hy : Lib.decFrom 0 p with
    | none => rw [hy] at h; cases h
    | some y =>
      rw [hy] at h
      obtain ⟨h1, h2⟩ := decFrom_cons (show Lib.decFrom y [b] = some v from h)
      have h2 : 10 * y + (b.toNat - 48) = v := Option.some.inj h2
      simp only [isDig, Bool.and_eq_true, decide_eq_true_eq] at h1
      cases p with
      | nil => simp at hp
      | cons a t =>
        have ha : a ≠ 48 := by
          rintro rfl
          have := hh (by simp)
          simp at this
        obtain ⟨g1, g2⟩ := decFrom_cons hy
        simp only [isDig, Bool.and_eq_true, decide_eq_true_eq] at g1
        have ha' : a.toNat ≠ 48 := fun e => ha (UInt8.toNat_inj.1 e)
        have gy := decFrom_ge g2
        cases k with
        | zero => omega
        | succ k =>
          rw [digK, if_neg (by omega), show v / 10 = y by omega, ih (a :: t) k y hp (by omega) (fun e => absurd (by simpa using e) ha) hy]
          congr 1
          congr 1
          apply UInt8.toNat_inj.1
          rw [UInt8.toNat_ofNat']
          omega
theorem decC_text {d : List UInt8} {v : Nat} (h : decC d = some v) : digK 20 v = d := by
  obtain ⟨h1, h2, h3, h4⟩ := decC_some h
  have hlen : d.length ≠ 0 := fun e => h1 (List.length_eq_zero_iff.1 e)
  exact digK_canon (d.length - 1) d 20 v (by omega) (by omega) h3 h2
theorem decC_lt {d : List UInt8} {v : Nat} (h : decC d = some v) : v < 1000000 := by
  obtain ⟨h1, h2, h3, h4⟩ := decC_some h
  obtain ⟨m, v', e1, e2, e3, e4, e5⟩ := digL_facts false d 0 0 (by omega)
  have e := digL_run false [] (fun b t hb => by cases hb) d 0 0 v h2 (by omega) (fun h => by cases h)
  have hb := digL_bound false d 0 0 (by decide) (by omega)
  rw [List.append_nil] at e
  rw [e] at hb
  exact Nat.lt_of_lt_of_le hb.1 (p10_le hb.2)
theorem atoi_plain {w : List UInt8} {v : Nat} (h : decC w = some v) : Lib.atoi w = some (v : Int) := by
  obtain ⟨h1, h2, h3, h4⟩ := decC_some h
  cases w with
  | nil => exact absurd rfl h1
  | cons b r =>
    have hd := (decFrom_cons h2).1
    simp only [isDig, Bool.and_eq_true, decide_eq_true_eq] at hd
    have n1 : (b == 45) = false := by rw [beq_eq_false_iff_ne]; rintro rfl; simp at hd
    have n2 : (b == 43) = false := by rw [beq_eq_false_iff_ne]; rintro rfl; simp at hd
    have : Lib.decNat (b :: r) = some v := h2
    show (if (b == 45) = true then (Lib.decNat r).map fun (m : Nat) => -(m : Int) else if (b == 43) = true then (Lib.decNat r).map fun (m : Nat) => (m : Int) else (Lib.decNat (b :: r)).map fun (m : Nat) => (m : Int)) = _
    rw [n1, n2, this]; rfl
theorem atoi_minus {w : List UInt8} {v : Nat} (h : decC w = some v) : Lib.atoi (45 :: w) = some (-(v : Int)) := by
  obtain ⟨h1, h2, h3, h4⟩ := decC_some h
  have : Lib.decNat w = some v := by
    cases w with
    | nil => exact absurd rfl h1
    | cons b r => exact h2
  show (Lib.decNat w).map (fun (m : Nat) => -(m : Int)) = _
  rw [this]; rfl
theorem digK_20 (n : Nat) (h : n < 1000000) : digK 20 n ≠ [] ∧ (digK 20 n).length ≤ 6 ∧ ∀ b ∈ digK 20 n, isDig b = true := by
  have := decC_digK n h
  obtain ⟨h1, h2, h3, h4⟩ := decC_some this
  exact ⟨h1, h4, decFrom_dig h2⟩
theorem numC_plain {w : List UInt8} (h : ∀ d, w ≠ 45 :: d) : numC w = match decC w with | some x => if x ≤ 32767 then some (x : Int) else none | none => none := by
  unfold numC
  split
  · rename_i d; exact absurd rfl (h d)
  · rfl
theorem num_some {w : List UInt8} {v : Int} (h : numC w = some v) : Lib.atoiAll w = .ok v ∧ itoaK v = w ∧ -32768 ≤ v ∧ v ≤ 32767 := by
  by_cases c : ∃ d, w = 45 :: d
  · obtain ⟨d, rfl⟩ := c
    have h : (match decC d with | some x => if x ≠ 0 ∧ x ≤ 32768 then some (-(x : Int)) else none | none => none) = some v := h
    cases hd : decC d with
    | none => rw [hd] at h; cases h
    | some x =>
      rw [hd] at h
      by_cases hx : x ≠ 0 ∧ x ≤ 32768
      · have h : (if x ≠ 0 ∧ x ≤ 32768 then some (-(x : Int)) else none) = some v := h
        rw [if_pos hx] at h
        obtain rfl := Option.some.inj h
        have hl := (decC_some hd).2.2.2
        refine ⟨?_, ?_, by omega, by omega⟩
        · rw [Lib.atoiAll_short _ (by simp only [List.length_cons]; omega), atoi_minus hd]; rfl
        · unfold itoaK
          rw [if_pos (by omega), show (-(x : Int)).natAbs = x by omega, decC_text hd]
      · have h : (if x ≠ 0 ∧ x ≤ 32768 then some (-(x : Int)) else none) = some v := h
        rw [if_neg hx] at h; cases h
  · rw [numC_plain (fun d e => c ⟨d, e⟩)] at h
    cases hd : decC w with
    | none => rw [hd] at h; cases h
    | some x =>
      rw [hd] at h
      have h : (if x ≤ 32767 then some (x : Int) else none) = some v := h
      by_cases hx : x ≤ 32767
      · rw [if_pos hx] at h
        obtain rfl := Option.some.inj h
        have hl := (decC_some hd).2.2.2
        refine ⟨?_, ?_, by omega, by omega⟩
        · rw [Lib.atoiAll_short _ (by omega), atoi_plain hd]; rfl
        · unfold itoaK
          rw [if_neg (by omega), show ((x : Int)).toNat = x by omega, decC_text hd]
      · rw [if_neg hx] at h; cases h
theorem dig_ne45 {d : List UInt8} {n : Nat} (h : n < 1000000) : digK 20 n ≠ 45 :: d := by
  intro e
  have := (digK_20 n h).2.2 45 (by rw [e]; simp)
  revert this; decide
theorem num_of (v : Int) (h0 : -32768 ≤ v) (h1 : v ≤ 32767) : numC (itoaK v) = some v := by
  unfold itoaK
  by_cases c : v < 0
  · rw [if_pos c]
    show (match decC (digK 20 v.natAbs) with | some x => if x ≠ 0 ∧ x ≤ 32768 then some (-(x : Int)) else none | none => none) = some v
    rw [decC_digK _ (by omega)]
    show (if v.natAbs ≠ 0 ∧ v.natAbs ≤ 32768 then some (-(v.natAbs : Int)) else none) = some v
    rw [if_pos (by omega)]
    congr 1; omega
  · rw [if_neg c, numC_plain (fun d => dig_ne45 (by omega)), decC_digK _ (by omega)]
    show (if v.toNat ≤ 32767 then some (v.toNat : Int) else none) = some v
    rw [if_pos (by omega)]
    congr 1; omega
theorem numF_some {w : List UInt8} {v : Int} (h : numC w = some v) : numF (B w) = (v, true) := by
  obtain ⟨h1, h2, h3, h4⟩ := num_some h
  unfold numF
  rw [B_list, h1]
  show (v, (decide (-32768 ≤ v) && decide (v ≤ 32767)) && itoaK v == w) = _
  rw [h2]
  show (v, (decide (-32768 ≤ v) && decide (v ≤ 32767)) && w == w) = _
  rw [decide_eq_true h3, decide_eq_true h4]
  simp
theorem numF_none {w : List UInt8} (h : numC w = none) : (numF (B w)).2 = false := by
  unfold numF
  rw [B_list]
  cases ha : Lib.atoiAll w
  case ok v =>
    show ((decide (-32768 ≤ v) && decide (v ≤ 32767)) && itoaK v == w) = false
    cases hc : ((decide (-32768 ≤ v) && decide (v ≤ 32767)) && itoaK v == w) with
    | false => rfl
    | true =>
      simp only [Bool.and_eq_true, decide_eq_true_eq, beq_iff_eq] at hc
      have := num_of v hc.1.1 hc.1.2
      rw [hc.2, h] at this; cases this
  all_goals rfl
theorem digF_some {d : List UInt8} {x : Nat} (h : decC d = some x) (hx : x ≤ 99) : digF (B d) 99 = ((x : Int), true) := by
  have hl := (decC_some h).2.2.2
  unfold digF
  rw [B_list, Lib.atoiAll_short _ (by omega), atoi_plain h]
  show ((x : Int), (decide (0 ≤ (x : Int)) && decide ((x : Int) ≤ 99)) && itoaK x == d) = _
  have e : itoaK (x : Int) = d := by
    unfold itoaK
    rw [if_neg (by omega), show ((x : Int)).toNat = x by omega, decC_text h]
  rw [e, decide_eq_true (by omega), decide_eq_true (by omega)]
  simp
theorem digF_true {d : List UInt8} (h : (digF (B d) 99).2 = true) : ∃ x, decC d = some x ∧ x ≤ 99 := by
  unfold digF at h
  rw [B_list] at h
  cases ha : Lib.atoiAll d
  case ok v =>
    rw [ha] at h
    have hc : ((decide (0 ≤ v) && decide (v ≤ 99)) && itoaK v == d) = true := h
    simp only [Bool.and_eq_true, decide_eq_true_eq, beq_iff_eq] at hc
    refine ⟨v.toNat, ?_, by omega⟩
    rw [← hc.2]
    unfold itoaK
    rw [if_neg (by omega)]
    exact decC_digK _ (by omega)
  all_goals (rw [ha] at h; cases h)
theorem number_eq (w : List UInt8) (hw : w.length ≤ 1024) : term_Number.f (B w) = some (numF (B w)) := by
  unfold term_Number.f
  rw [if_pos (by rw [B_size]; omega)]
theorem trim_at (w : List UInt8) : Lib.trimPrefix w [64] = (match w with | 64 :: d => d | d => d) ∧ Lib.hasPrefix w [64] = (match w with | 64 :: _ => true | _ => false) := by
  cases w with
  | nil => exact ⟨rfl, rfl⟩
  | cons b d =>
    by_cases c : b = 64
    · subst c; exact ⟨rfl, rfl⟩
    · have hp : Lib.hasPrefix (b :: d) [64] = false := by
        show ((64 : UInt8) == b && List.isPrefixOf [] d) = false
        rw [beq_eq_false_iff_ne.2 (fun e => c e.symm)]; rfl
      refine ⟨?_, ?_⟩
      · unfold Lib.trimPrefix
        rw [hp]
        split
        · rename_i e; exact absurd e (by simp)
        · split
          · rename_i e; exact absurd (List.cons.inj e).1 c
          · rfl
      · rw [hp]
        split
        · rename_i e; exact absurd (List.cons.inj e).1 c
        · rfl
theorem tag_some {w : List UInt8} {x : Int} (h : tagC w = some x) : term_Tag.f (B w) = some (x, true) := by
  unfold tagC at h
  split at h
  · rename_i d
    cases hd : decC d with
    | none => rw [hd] at h; cases h
    | some y =>
      rw [hd] at h
      have h : (if y ≤ 99 then some (y : Int) else none) = some x := h
      by_cases hy : y ≤ 99
      · rw [if_pos hy] at h
        obtain rfl := Option.some.inj h
        have hl := (decC_some hd).2.2.2
        unfold term_Tag.f strings_CutPrefix.f term_Digits.f
        simp only [Option.bind_some, B_list]
        rw [(trim_at _).1, (trim_at _).2]
        show ((if (B d).size ≤ 281474976710656 then some (digF (B d) 99) else none).bind _) = _
        rw [if_pos (by rw [B_size]; omega), digF_some hd hy]
        rfl
      · rw [if_neg hy] at h; cases h
  · cases h
theorem tag_none {w : List UInt8} (hw : w.length ≤ 1024) (h : tagC w = none) : ∃ x, term_Tag.f (B w) = some (x, false) := by
  unfold term_Tag.f strings_CutPrefix.f term_Digits.f
  simp only [Option.bind_some, B_list]
  rw [(trim_at _).1, (trim_at _).2]
  cases w with
  | nil => exact ⟨_, rfl⟩
  | cons b d =>
    by_cases c : b = 64
    · subst c
      show ∃ x, ((if (B d).size ≤ 281474976710656 then some (digF (B d) 99) else none).bind _) = _
      rw [if_pos (by rw [B_size]; simp only [List.length_cons] at hw; omega)]
      refine ⟨(digF (B d) 99).1, ?_⟩
      cases h2 : (digF (B d) 99).2 with
      | false => show some ((digF (B d) 99).1, (digF (B d) 99).2) = _; rw [h2]
      | true =>
        obtain ⟨x, hx, hx2⟩ := digF_true h2
        have h : (match decC d with | some x => if x ≤ 99 then some (x : Int) else none | none => none) = none := h
        rw [hx] at h
        have h : (if x ≤ 99 then some (x : Int) else none) = none := h
        rw [if_pos hx2] at h; cases h
    · have e1 : (match b :: d with | 64 :: d => d | d => d) = b :: d := by
        split
        · rename_i e; exact absurd (List.cons.inj e).1 c
        · rfl
      have e2 : (match b :: d with | 64 :: _ => true | _ => false) = false := by
        split
        · rename_i e; exact absurd (List.cons.inj e).1 c
        · rfl
      rw [e1, e2]
      show ∃ x, ((if (B (b :: d)).size ≤ 281474976710656 then some (digF (B (b :: d)) 99) else none).bind _) = _
      rw [if_pos (by rw [B_size]; omega)]
      exact ⟨_, rfl⟩
abbrev TR := Int × Int × List ByteArray × List UInt8
def kidsL (f : List UInt8 → Option TR) (x : Int) : List ByteArray → Nat → List UInt8 → Option TR
  | _, 0, _ => none
  | ks, m + 1, l => match f l with
    | none => none
    | some r => if r.2.2.2.head? = some 32 then kidsL f x (ks ++ [B (l.take (l.length - r.2.2.2.length))]) m r.2.2.2.tail else if r.2.2.2.head? = some 41 then some (2, x, ks ++ [B (l.take (l.length - r.2.2.2.length))], r.2.2.2.tail) else none
def spT : Nat → List UInt8 → Option TR
  | 0, _ => none
  | n + 1, l => if l.takeWhile nsep = [95] then some (0, 0, [], l.dropWhile nsep) else if l.takeWhile nsep = [33] then some (3, 0, [], l.dropWhile nsep) else
    match numC (l.takeWhile nsep) with
    | some x => some (1, x, [], l.dropWhile nsep)
    | none => match tagC (l.takeWhile nsep) with
      | none => none
      | some x => if (l.dropWhile nsep).head? = some 40 then kidsL (spT n) x [] 3 (l.dropWhile nsep).tail else some (2, x, [], l.dropWhile nsep)
theorem head_tail {l : List UInt8} {b : UInt8} (h : l.head? = some b) : l = b :: l.tail := by
  cases l with
  | nil => cases h
  | cons a t => obtain rfl : a = b := by simpa using h
                rfl
theorem kidsL_suf (f : List UInt8 → Option TR) (hf : ∀ l r, f l = some r → ∃ p, l = p ++ r.2.2.2) (x : Int) : ∀ (m : Nat) (ks : List ByteArray) (l : List UInt8) (r : TR), kidsL f x ks m l = some r → ∃ p, l = p ++ r.2.2.2 := by
  intro m
  induction m with
  | zero => intro ks l r h; cases h
  | succ m ih =>
    intro ks l r h
    rw [kidsL] at h
    cases hl : f l with
    | none => rw [hl] at h; cases h
    | some q =>
      rw [hl] at h
      obtain ⟨p, hp⟩ := hf l q hl
      have h : (if q.2.2.2.head? = some 32 then kidsL f x (ks ++ [B (l.take (l.length - q.2.2.2.length))]) m q.2.2.2.tail else if q.2.2.2.head? = some 41 then some (2, x, ks ++ [B (l.take (l.length - q.2.2.2.length))], q.2.2.2.tail) else none) = some r := h
      by_cases c : q.2.2.2.head? = some 32
      · rw [if_pos c] at h
        obtain ⟨p2, hp2⟩ := ih _ _ _ h
        refine ⟨p ++ 32 :: p2, ?_⟩
        rw [List.append_assoc, List.cons_append, ← hp2, ← head_tail c]
        exact hp
      · rw [if_neg c] at h
        by_cases c2 : q.2.2.2.head? = some 41
        · rw [if_pos c2] at h
          obtain rfl := Option.some.inj h
          refine ⟨p ++ [41], ?_⟩
          rw [List.append_assoc, List.singleton_append, ← head_tail c2]
          exact hp
        · rw [if_neg c2] at h; cases h
theorem tw_dw (l : List UInt8) : l = l.takeWhile nsep ++ l.dropWhile nsep := List.takeWhile_append_dropWhile.symm
theorem spT_suf : ∀ (n : Nat) (l : List UInt8) (r : TR), spT n l = some r → ∃ p, l = p ++ r.2.2.2 := by
  intro n
  induction n with
  | zero => intro l r h; cases h
  | succ n ih =>
    intro l r h
    rw [spT] at h
    have hw := tw_dw l
    by_cases c1 : l.takeWhile nsep = [95]
    · rw [if_pos c1] at h; obtain rfl := Option.some.inj h; exact ⟨_, hw⟩
    · rw [if_neg c1] at h
      by_cases c2 : l.takeWhile nsep = [33]
      · rw [if_pos c2] at h; obtain rfl := Option.some.inj h; exact ⟨_, hw⟩
      · rw [if_neg c2] at h
        cases hn : numC (l.takeWhile nsep) with
        | some x => rw [hn] at h; obtain rfl := Option.some.inj h; exact ⟨_, hw⟩
        | none =>
          rw [hn] at h
          cases ht : tagC (l.takeWhile nsep) with
          | none => rw [ht] at h; cases h
          | some x =>
            rw [ht] at h
            have h : (if (l.dropWhile nsep).head? = some 40 then kidsL (spT n) x [] 3 (l.dropWhile nsep).tail else some (2, x, [], l.dropWhile nsep)) = some r := h
            by_cases c3 : (l.dropWhile nsep).head? = some 40
            · rw [if_pos c3] at h
              obtain ⟨p, hp⟩ := kidsL_suf (spT n) ih x _ _ _ _ h
              refine ⟨l.takeWhile nsep ++ 40 :: p, ?_⟩
              rw [List.append_assoc, List.cons_append, ← hp, ← head_tail c3]
              exact hw
            · rw [if_neg c3] at h; obtain rfl := Option.some.inj h; exact ⟨_, hw⟩

theorem hasPre (b : UInt8) (l : List UInt8) : strings_HasPrefix.f (B l) ⟨#[b]⟩ = some (decide (l.head? = some b)) := by
  unfold strings_HasPrefix.f
  rw [B_list]
  congr 1
  show List.isPrefixOf [b] l = _
  cases l with
  | nil => rfl
  | cons a t =>
    show (b == a && List.isPrefixOf [] t) = _
    by_cases c : a = b
    · subst c; simp
    · rw [beq_eq_false_iff_ne.2 (fun e => c e.symm)]
      simp [c]
theorem cutPre (b : UInt8) (l : List UInt8) : strings_CutPrefix.f (B l) ⟨#[b]⟩ = some (if l.head? = some b then (B l.tail, true) else (B l, false)) := by
  have h := hasPre b l
  unfold strings_HasPrefix.f at h
  unfold strings_CutPrefix.f
  have h := Option.some.inj h
  by_cases c : l.head? = some b
  · rw [if_pos c, h, decide_eq_true c]
    rw [decide_eq_true c] at h
    unfold Lib.trimPrefix
    rw [h, if_pos rfl, B_list, head_tail c]
    rfl
  · rw [if_neg c, h, decide_eq_false c]
    rw [decide_eq_false c] at h
    unfold Lib.trimPrefix
    rw [h]
    rfl
def CutEv (g : Nat → Option (Int × Int × List ByteArray × ByteArray × Bool)) (o : Option TR) : Prop :=
  match o with
  | some r => Ev g (r.1, r.2.1, r.2.2.1, B r.2.2.2, true)
  | none => ∃ a b c d, Ev g (a, b, c, d, false)
theorem CutEv.step {g f : Nat → Option (Int × Int × List ByteArray × ByteArray × Bool)} {o : Option TR} (h : ∀ k, g (k + 1) = f k) (k : CutEv f o) : CutEv g o := by
  cases o with
  | some r => exact Ev.step h k
  | none => obtain ⟨a, b, c, d, k⟩ := k; exact ⟨a, b, c, d, Ev.step h k⟩
theorem CutEv.bind {β : Type} {g : Nat → Option β} {f : Nat → β → Option (Int × Int × List ByteArray × ByteArray × Bool)} {o : Option TR} {a : β} (h : Ev g a) (k : CutEv (fun n => f n a) o) : CutEv (fun n => (g n).bind (f n)) o := by
  cases o with
  | some r => exact Ev.bind h k
  | none => obtain ⟨a', b, c, d, k⟩ := k; exact ⟨a', b, c, d, Ev.bind h k⟩
theorem CutEv.congr {g f : Nat → Option (Int × Int × List ByteArray × ByteArray × Bool)} {o : Option TR} (h : ∀ k, g k = f k) (k : CutEv f o) : CutEv g o := by
  cases o with
  | some r => exact Ev.congr h k
  | none => obtain ⟨a, b, c, d, k⟩ := k; exact ⟨a, b, c, d, Ev.congr h k⟩
def afterKid (k : Nat) (l : ByteArray) (x : Int) (ks : List ByteArray) (t : Int × Int × List ByteArray × ByteArray × Bool) : Option (Int × Int × List ByteArray × ByteArray × Bool) :=
  if t.2.2.2.2 = true then (if 0 ≤ (wrap64 ((l.size : Int) - (t.2.2.2.1.size : Int))) then (if (wrap64 ((l.size : Int) - (t.2.2.2.1.size : Int))) ≤ (l.size : Int) then (if ks.length < 8796093022208 then ((some (ks ++ [l.extract 0 ((wrap64 ((l.size : Int) - (t.2.2.2.1.size : Int))) : Int).toNat] : List ByteArray)).bind fun y => ((strings_HasPrefix.f t.2.2.2.1 (⟨#[32]⟩ : ByteArray)).bind fun t125 => (if t125 = true then (term_cut.l0 k t.2.2.2.1 x y) else ((strings_CutPrefix.f t.2.2.2.1 (⟨#[41]⟩ : ByteArray)).bind fun bt126 => (some (2, x, y, bt126.1, bt126.2)))))) else (none)) else (none)) else (none)) else (some (0, 0, ([] : List ByteArray), (⟨#[]⟩ : ByteArray), false))
theorem cut_kids (n : Nat) (x : Int) (ih : ∀ l : List UInt8, l.length < n → l.length ≤ 1024 → CutEv (fun j => term_cut.f j (B l)) (spT n l)) :
    ∀ (m : Nat) (ks : List ByteArray) (c : UInt8) (l : List UInt8), ks.length + m = 3 → l.length < n → l.length ≤ 1023 → c ≠ 41 → CutEv (fun j => term_cut.l0 j (B (c :: l)) x ks) (kidsL (spT n) x ks m l) := by
  intro m
  induction m with
  | zero =>
    intro ks c l h3 hn hl hc
    refine CutEv.step (f := fun _ => some (2, x, ks, B (c :: l), false)) (fun k => ?_) ⟨_, _, _, _, Ev.now _⟩
    simp only [term_cut.l0]
    rw [if_neg (by omega), cutPre, if_neg (by simpa using hc)]
    rfl
  | succ m ihm =>
    intro ks c l h3 hn hl hc
    have hcut := ih l hn (by omega)
    have hx : (B (c :: l)).extract 1 (B (c :: l)).size = B l := by rw [B_tail]; rfl
    rw [kidsL]
    cases hs : spT n l with
    | none =>
      rw [hs] at hcut
      obtain ⟨a1, a2, a3, a4, hcut⟩ := hcut
      refine CutEv.step (f := fun k => (term_cut.f k (B l)).bind (afterKid k (B l) x ks)) (fun k => ?_) (CutEv.bind hcut ?_)
      · simp only [term_cut.l0]
        rw [if_pos (by omega), if_pos (by rw [B_size]; simp only [List.length_cons]; omega), hx]
        rfl
      · exact ⟨_, _, _, _, Ev.now _⟩
    | some r =>
      rw [hs] at hcut
      obtain ⟨p, hp⟩ := spT_suf n l r hs
      have hlen : l.length = p.length + r.2.2.2.length := by rw [hp, List.length_append]
      have hcut : Ev (fun j => term_cut.f j (B l)) (r.1, r.2.1, r.2.2.1, B r.2.2.2, true) := hcut
      show CutEv _ (if r.2.2.2.head? = some 32 then kidsL (spT n) x (ks ++ [B (l.take (l.length - r.2.2.2.length))]) m r.2.2.2.tail else if r.2.2.2.head? = some 41 then some (2, x, ks ++ [B (l.take (l.length - r.2.2.2.length))], r.2.2.2.tail) else none)
      refine CutEv.step (f := fun k => (term_cut.f k (B l)).bind (afterKid k (B l) x ks)) (fun k => ?_) (CutEv.bind hcut ?_)
      · simp only [term_cut.l0]
        rw [if_pos (by omega), if_pos (by rw [B_size]; simp only [List.length_cons]; omega), hx]
        rfl
      · have hw : wrap64 (((B l).size : Int) - ((B r.2.2.2).size : Int)) = ((l.length - r.2.2.2.length : Nat) : Int) := by
          rw [B_size, B_size, w64 (by omega) (by omega)]; omega
        refine CutEv.congr (f := fun k => if r.2.2.2.head? = some 32 then term_cut.l0 k (B r.2.2.2) x (ks ++ [B (l.take (l.length - r.2.2.2.length))]) else if r.2.2.2.head? = some 41 then some (2, x, ks ++ [B (l.take (l.length - r.2.2.2.length))], B r.2.2.2.tail, true) else some (2, x, ks ++ [B (l.take (l.length - r.2.2.2.length))], B r.2.2.2, false)) (fun k => ?_) ?_
        · unfold afterKid
          simp only [hw]
          rw [if_pos True.intro, if_pos (by omega), if_pos (by rw [B_size]; omega), if_pos (by omega), Option.bind_some, hasPre, Option.bind_some, B_head, show ((l.length - r.2.2.2.length : Nat) : Int).toNat = l.length - r.2.2.2.length by omega]
          by_cases c1 : r.2.2.2.head? = some 32
          · rw [if_pos c1, if_pos (decide_eq_true c1)]
          · rw [if_neg c1, if_neg (by simpa using c1), cutPre]
            by_cases c2 : r.2.2.2.head? = some 41
            · rw [if_pos c2, if_pos c2]; rfl
            · rw [if_neg c2, if_neg c2]; rfl
        · by_cases c1 : r.2.2.2.head? = some 32
          · have hb := head_tail c1
            have hlb : r.2.2.2.length = r.2.2.2.tail.length + 1 := by
              conv => lhs; rw [hb]
              rfl
            have := ihm (ks ++ [B (l.take (l.length - r.2.2.2.length))]) 32 r.2.2.2.tail (by simp only [List.length_append, List.length_cons, List.length_nil]; omega) (by omega) (by omega) (by decide)
            rw [← hb] at this
            simp only [if_pos c1]
            exact this
          · by_cases c2 : r.2.2.2.head? = some 41
            · simp only [if_neg c1, if_pos c2]
              exact Ev.now _
            · simp only [if_neg c1, if_neg c2]
              exact ⟨_, _, _, _, Ev.now _⟩
theorem cut_ev : ∀ (n : Nat) (l : List UInt8), l.length < n → l.length ≤ 1024 → CutEv (fun j => term_cut.f j (B l)) (spT n l) := by
  intro n
  induction n with
  | zero => intro l h; omega
  | succ n ih =>
    intro l hn hl
    have hw := tw_dw l
    have hlen : l.length = (l.takeWhile nsep).length + (l.dropWhile nsep).length := by conv => lhs; rw [hw, List.length_append]
    have hwl : (l.takeWhile nsep).length ≤ 1024 := by omega
    rw [spT]
    refine CutEv.step (f := fun k => if l.takeWhile nsep = [95] then some (0, 0, ([] : List ByteArray), B (l.dropWhile nsep), true) else if l.takeWhile nsep = [33] then some (3, 0, ([] : List ByteArray), B (l.dropWhile nsep), true) else
      if (numF (B (l.takeWhile nsep))).2 = true then some (1, (numF (B (l.takeWhile nsep))).1, ([] : List ByteArray), B (l.dropWhile nsep), true) else (term_Tag.f (B (l.takeWhile nsep))).bind fun t => if t.2 = true then term_cut.j0 k (B (l.dropWhile nsep)) t.1 t.2 (!decide ((l.dropWhile nsep).head? = some 40)) else term_cut.j0 k (B (l.dropWhile nsep)) t.1 t.2 true) (fun k => ?_) ?_
    · simp only [term_cut.f]
      rw [word_eq l hl, Option.bind_some, B_toList, number_eq _ hwl, Option.bind_some]
      simp only [hasPre, Option.bind_some]
    · by_cases c1 : l.takeWhile nsep = [95]
      · simp only [if_pos c1]; exact Ev.now _
      · simp only [if_neg c1]
        by_cases c2 : l.takeWhile nsep = [33]
        · simp only [if_pos c2]; exact Ev.now _
        · simp only [if_neg c2]
          cases hnum : numC (l.takeWhile nsep) with
          | some x =>
            rw [numF_some hnum]
            exact Ev.now _
          | none =>
            have hnf : ¬ ((numF (B (l.takeWhile nsep))).2 = true) := by rw [numF_none hnum]; simp
            simp only [if_neg hnf]
            cases htag : tagC (l.takeWhile nsep) with
            | none =>
              obtain ⟨x, hx⟩ := tag_none hwl htag
              refine CutEv.step (f := fun _ => some (2, x, ([] : List ByteArray), B (l.dropWhile nsep), false)) (fun k => ?_) ⟨_, _, _, _, Ev.now _⟩
              rw [hx]
              rfl
            | some x =>
              have hx := tag_some htag
              by_cases c3 : (l.dropWhile nsep).head? = some 40
              · show CutEv _ (if (l.dropWhile nsep).head? = some 40 then kidsL (spT n) x [] 3 (l.dropWhile nsep).tail else some (2, x, [], l.dropWhile nsep))
                rw [if_pos c3]
                have hb := head_tail c3
                have hlb : (l.dropWhile nsep).length = (l.dropWhile nsep).tail.length + 1 := by
                  conv => lhs; rw [hb]
                  rfl
                have hk := cut_kids n x ih 3 [] 40 (l.dropWhile nsep).tail rfl (by omega) (by omega) (by decide)
                rw [← hb] at hk
                refine CutEv.step (fun k => ?_) hk
                rw [hx]
                show (if true = true then term_cut.j0 (k + 1) (B (l.dropWhile nsep)) x true (!decide ((l.dropWhile nsep).head? = some 40)) else term_cut.j0 (k + 1) (B (l.dropWhile nsep)) x true true) = _
                rw [if_pos rfl, decide_eq_true c3]
                rfl
              · show CutEv _ (if (l.dropWhile nsep).head? = some 40 then kidsL (spT n) x [] 3 (l.dropWhile nsep).tail else some (2, x, [], l.dropWhile nsep))
                rw [if_neg c3]
                refine CutEv.step (f := fun _ => some (2, x, ([] : List ByteArray), B (l.dropWhile nsep), true)) (fun k => ?_) (Ev.now _)
                rw [hx]
                show (if true = true then term_cut.j0 (k + 1) (B (l.dropWhile nsep)) x true (!decide ((l.dropWhile nsep).head? = some 40)) else term_cut.j0 (k + 1) (B (l.dropWhile nsep)) x true true) = _
                rw [if_pos rfl, decide_eq_false c3]
                rfl
abbrev RR := Int × Int × List ByteArray × Int
def RefEv (s : List UInt8) (a : Nat) (g : Nat → Option RR) (o : Option TR) : Prop :=
  match o with
  | some r => Ev g (r.1, r.2.1, r.2.2.1, ((s.length - r.2.2.2.length : Nat) : Int))
  | none => ∃ x y z d, Ev g (x, y, z, d) ∧ (d = -1 ∨ ∃ t : Nat, ∃ h : t < s.length, d = (t : Int) ∧ a ≤ t ∧ nsep s[t] = true)
theorem RefEv.succ {s : List UInt8} {a : Nat} {g : Nat → Option RR} {o : Option TR} (k : RefEv s a (fun k => g (k + 1)) o) : RefEv s a g o := by
  cases o with
  | some r => exact Ev.step (fun _ => rfl) k
  | none => obtain ⟨x, y, z, d, k, h⟩ := k; exact ⟨x, y, z, d, Ev.step (fun _ => rfl) k, h⟩
theorem RefEv.bind {s : List UInt8} {a : Nat} {β : Type} {g : Nat → Option β} {f : Nat → β → Option RR} {o : Option TR} {b : β} (h : Ev g b) (k : RefEv s a (fun n => f n b) o) : RefEv s a (fun n => (g n).bind (f n)) o := by
  cases o with
  | some r => exact Ev.bind h k
  | none => obtain ⟨x, y, z, d, k, h'⟩ := k; exact ⟨x, y, z, d, Ev.bind h k, h'⟩
theorem RefEv.bad {s : List UInt8} {a : Nat} : RefEv s a (fun _ => (sleuthref1_bad.f).bind fun b => some (b.1, b.2.1, b.2.2.1, b.2.2.2)) none := ⟨0, 0, [], -1, Ev.now _, .inl rfl⟩
theorem nummay_eq (x : Int) : sleuthref1_NumMay.f x = some (decide (-32768 ≤ x ∧ x ≤ 32767)) := by
  unfold sleuthref1_NumMay.f sleuthref1_upTo.f
  by_cases c : x ≥ -32768
  · rw [if_pos c]
    show some (decide (x ≤ 32767)) = _
    congr 1
    by_cases c2 : x ≤ 32767
    · rw [decide_eq_true c2, decide_eq_true ⟨c, c2⟩]
    · rw [decide_eq_false c2, decide_eq_false (fun h => c2 h.2)]
  · rw [if_neg c]
    show some false = _
    rw [decide_eq_false (fun h => c h.1)]
theorem nsep_ne {b : UInt8} (h : nsep b = true) : b ≠ 32 ∧ b ≠ 40 ∧ b ≠ 41 := by
  refine ⟨?_, ?_, ?_⟩ <;> (rintro rfl; revert h; decide)
theorem bt_ne {s : List UInt8} {t : Nat} {c : UInt8} (h : t < s.length) (hc : s[t] ≠ c) : ¬ bt (B s) (t : Int) = (c.toNat : Int) := by
  rw [B_bt s t h]
  intro e
  exact hc (UInt8.toNat_inj.1 (by omega))
theorem bt_eq {s : List UInt8} {t : Nat} {c : UInt8} (h : t < s.length) (hc : s[t] = c) : bt (B s) (t : Int) = (c.toNat : Int) := by rw [B_bt s t h, hc]
theorem ref_parts (s : List UInt8) (hs : s.length ≤ 1024) (n : Nat) (x : Int) (ih : ∀ a : Nat, a ≤ s.length → s.length - a < n → RefEv s a (fun j => sleuthref1_term.f j (B s) (a : Int)) (spT n (s.drop a))) (a0 : Nat) :
    ∀ (m : Nat) (ks : List ByteArray) (a : Nat) (tq : Int), ks.length + m = 3 → a ≤ s.length → s.length - a < n → RefEv s a0 (fun j => sleuthref1_parts.l0 j (B s) (a : Int) 2 x ks tq) (kidsL (spT n) x ks m (s.drop a)) := by
  intro m
  induction m with
  | zero =>
    intro ks a tq h3 ha hn
    apply RefEv.succ
    have c1 : ¬ ((ks.length : Int) < 3) := by omega
    simp only [sleuthref1_parts.l0, if_neg c1]
    exact RefEv.bad
  | succ m ihm =>
    intro ks a tq h3 ha hn
    have hr := ih a ha hn
    apply RefEv.succ
    have c1 : (ks.length : Int) < 3 := by omega
    simp only [sleuthref1_parts.l0, if_pos c1]
    rw [kidsL]
    have hc0 : (0 : Int) ≤ (a : Int) := by omega
    have hkl : ks.length < 8796093022208 := by omega
    cases hsp : spT n (s.drop a) with
    | none =>
      rw [hsp] at hr
      obtain ⟨y1, y2, y3, d, hev, hd⟩ := hr
      refine RefEv.bind hev ?_
      rcases hd with rfl | ⟨t, ht, rfl, hat, hns⟩
      · simp only [if_pos (show (-1 : Int) < 0 by decide)]
        apply RefEv.succ
        simp only [sleuthref1_parts.j1, if_pos]
        exact RefEv.bad
      · have c2 : ¬ ((t : Int) < 0) := by omega
        have c3 : ¬ ((t : Int) ≥ ((B s).size : Int)) := by rw [B_size]; omega
        have c4 : (a : Int) ≤ (t : Int) := by omega
        have c5 : (t : Int) ≤ ((B s).size : Int) := by rw [B_size]; omega
        have c6 : (0 : Int) ≤ (t : Int) := by omega
        have c7 : (t : Int) < ((B s).size : Int) := by rw [B_size]; omega
        have c8 : ¬ bt (B s) (t : Int) = 41 := bt_ne ht (nsep_ne hns).2.2
        have c9 : ¬ bt (B s) (t : Int) = 32 := bt_ne ht (nsep_ne hns).1
        simp only [if_neg c2, decide_eq_false c3]
        apply RefEv.succ
        simp only [sleuthref1_parts.j1, if_neg (show ¬ (false = true) by decide), if_pos hc0, if_pos c4, if_pos c5, if_pos hkl, Option.bind_some, if_pos c6, if_pos c7, if_neg c8, if_neg c9]
        exact RefEv.bad
    | some r =>
      rw [hsp] at hr
      have hev : Ev (fun j => sleuthref1_term.f j (B s) (a : Int)) (r.1, r.2.1, r.2.2.1, ((s.length - r.2.2.2.length : Nat) : Int)) := hr
      refine RefEv.bind hev ?_
      obtain ⟨p, hp⟩ := spT_suf n _ r hsp
      have hlen : s.length - a = p.length + r.2.2.2.length := by rw [← List.length_drop, hp, List.length_append]
      obtain ⟨t, ht⟩ : ∃ t, s.length - r.2.2.2.length = t := ⟨_, rfl⟩
      have hta : t = a + p.length := by omega
      have hdrop : s.drop t = r.2.2.2 := by
        rw [hta, ← List.drop_drop, hp]
        simp
      have hkid : (s.drop a).take ((s.drop a).length - r.2.2.2.length) = (s.take t).drop a := by
        rw [List.length_drop, show s.length - a - r.2.2.2.length = t - a by omega, List.drop_take]
      rw [ht]
      have c2 : ¬ ((t : Int) < 0) := by omega
      simp only [if_neg c2]
      show RefEv s a0 _ (if r.2.2.2.head? = some 32 then kidsL (spT n) x (ks ++ [B ((s.drop a).take ((s.drop a).length - r.2.2.2.length))]) m r.2.2.2.tail else if r.2.2.2.head? = some 41 then some (2, x, ks ++ [B ((s.drop a).take ((s.drop a).length - r.2.2.2.length))], r.2.2.2.tail) else none)
      rw [hkid]
      by_cases c3 : (t : Int) ≥ ((B s).size : Int)
      · have hnil : r.2.2.2 = [] := by
          rw [← hdrop]; exact List.drop_eq_nil_of_le (by rw [B_size] at c3; omega)
        simp only [decide_eq_true c3]
        rw [hnil]
        apply RefEv.succ
        simp only [sleuthref1_parts.j1, if_pos]
        exact RefEv.bad
      · have htl : t < s.length := by rw [B_size] at c3; omega
        have c4 : (a : Int) ≤ (t : Int) := by omega
        have c5 : (t : Int) ≤ ((B s).size : Int) := by rw [B_size]; omega
        have c6 : (0 : Int) ≤ (t : Int) := by omega
        have c7 : (t : Int) < ((B s).size : Int) := by rw [B_size]; omega
        have hcons : r.2.2.2 = s[t] :: s.drop (t + 1) := by rw [← hdrop]; exact List.drop_eq_getElem_cons htl
        have hkidB : (B s).extract (a : Int).toNat (t : Int).toNat = B ((s.take t).drop a) := by rw [B_extract]; rfl
        rw [hcons, List.head?_cons, List.tail_cons]
        simp only [decide_eq_false c3]
        apply RefEv.succ
        have hw : wrap64 ((t : Int) + 1) = ((t + 1 : Nat) : Int) := by rw [w64 (by omega) (by omega)]; omega
        by_cases e1 : s[t] = 32
        · have c8 : ¬ bt (B s) (t : Int) = 41 := bt_ne (c := 41) htl (by rw [e1]; decide)
          have c9 : bt (B s) (t : Int) = 32 := bt_eq htl e1
          simp only [sleuthref1_parts.j1, if_neg (show ¬ (false = true) by decide), if_pos hc0, if_pos c4, if_pos c5, if_pos hkl, Option.bind_some, if_pos c6, if_pos c7, if_neg c8, if_pos c9, hkidB, hw]
          rw [if_pos (by rw [e1])]
          clear hw
          exact ihm _ (t + 1) tq (by simp only [List.length_append, List.length_cons, List.length_nil]; omega) (by omega) (by omega)
        · rw [if_neg (by simpa using e1)]
          by_cases e2 : s[t] = 41
          · have c8 : bt (B s) (t : Int) = 41 := bt_eq htl e2
            simp only [sleuthref1_parts.j1, if_neg (show ¬ (false = true) by decide), if_pos hc0, if_pos c4, if_pos c5, if_pos hkl, Option.bind_some, if_pos c6, if_pos c7, if_pos c8, hkidB, hw]
            rw [if_pos (by rw [e2])]
            clear hw
            have hl2 : s.length - (s.drop (t + 1)).length = t + 1 := by rw [List.length_drop]; omega
            show Ev _ (2, x, _, ((s.length - (s.drop (t + 1)).length : Nat) : Int))
            rw [hl2]
            exact Ev.now _
          · have c8 : ¬ bt (B s) (t : Int) = 41 := bt_ne htl e2
            have c9 : ¬ bt (B s) (t : Int) = 32 := bt_ne htl e1
            simp only [sleuthref1_parts.j1, if_neg (show ¬ (false = true) by decide), if_pos hc0, if_pos c4, if_pos c5, if_pos hkl, Option.bind_some, if_pos c6, if_pos c7, if_neg c8, if_neg c9]
            rw [if_neg (by simpa using e2)]
            exact RefEv.bad
theorem RefEv.eta {s : List UInt8} {a : Nat} {g : Nat → Option RR} {o : Option TR} (k : RefEv s a g o) : RefEv s a (fun n => (g n).bind fun b => some (b.1, b.2.1, b.2.2.1, b.2.2.2)) o := by
  have e : (fun n => (g n).bind fun b => some (b.1, b.2.1, b.2.2.1, b.2.2.2)) = g := by
    funext n
    cases g n with
    | none => rfl
    | some r => rfl
  rw [e]; exact k
theorem decC_nd {c : UInt8} {w : List UInt8} (h : isDig c = false) : decC (c :: w) = none := by
  cases hd : decC (c :: w) with
  | none => rfl
  | some v =>
    have := (decFrom_cons (decC_some hd).2.1).1
    rw [h] at this; cases this
theorem tw_pos {c : UInt8} (l : List UInt8) (h : nsep c = true) : (c :: l).takeWhile nsep = c :: l.takeWhile nsep ∧ (c :: l).dropWhile nsep = l.dropWhile nsep := by
  rw [List.takeWhile_cons, List.dropWhile_cons, h]
  exact ⟨rfl, rfl⟩
theorem tagC_ne {w : List UInt8} (h : ∀ d, w ≠ 64 :: d) : tagC w = none := by
  unfold tagC
  split
  · rename_i d; exact absurd rfl (h d)
  · rfl
theorem numC_nd {c : UInt8} {w : List UInt8} (h : isDig c = false) (h45 : c ≠ 45) : numC (c :: w) = none := by
  rw [numC_plain (fun d e => h45 (List.cons.inj e).1), decC_nd h]
theorem dig_at {s : List UInt8} {b : Nat} (hb : b ≤ s.length) (h : decC ((s.drop b).takeWhile nsep) = none) : (dig0 (s.drop b)).2 = 0 ∨ ∃ hh : b + (dig0 (s.drop b)).2 < s.length, nsep (s[b + (dig0 (s.drop b)).2]) = true := by
  rcases dig0_none h with h | ⟨hh, h⟩
  · exact .inl h
  · refine .inr ⟨by rw [List.length_drop] at hh; omega, ?_⟩
    rw [List.getElem_drop] at h
    exact h
theorem tw_at {s : List UInt8} {b : Nat} (h : (s.drop b).takeWhile nsep ≠ []) : ∃ hh : b < s.length, nsep s[b] = true := by
  by_cases hb : b < s.length
  · refine ⟨hb, ?_⟩
    rw [List.drop_eq_getElem_cons hb, List.takeWhile_cons] at h
    cases hn : nsep s[b] with
    | true => rfl
    | false => rw [hn] at h; simp at h
  · rw [List.drop_eq_nil_of_le (by omega)] at h; exact absurd rfl h
theorem dig_small (l : List UInt8) : (dig0 l).1 < 1000000 ∧ (dig0 l).2 ≤ 6 := by
  have h := digL_bound (l.head? == some 48) l 0 0 (by decide) (by omega)
  exact ⟨Nat.lt_of_lt_of_le h.1 (p10_le h.2), h.2⟩
theorem ref_term (s : List UInt8) (hs : s.length ≤ 1024) : ∀ (n a : Nat), a ≤ s.length → s.length - a < n → RefEv s a (fun j => sleuthref1_term.f j (B s) (a : Int)) (spT n (s.drop a)) := by
  intro n
  induction n with
  | zero => intro a _ h; omega
  | succ n ih =>
    intro a ha hn
    by_cases hl : s.length ≤ a
    · have c1 : (a : Int) ≥ ((B s).size : Int) := by rw [B_size]; omega
      rw [List.drop_eq_nil_of_le hl]
      have e : spT (n + 1) [] = none := rfl
      rw [e]
      apply RefEv.succ
      simp only [sleuthref1_term.f, if_pos c1]
      exact RefEv.bad
    · have hal : a < s.length := by omega
      have f1 : ¬ ((a : Int) ≥ ((B s).size : Int)) := by rw [B_size]; omega
      have f2 : (0 : Int) ≤ (a : Int) := by omega
      have f3 : (a : Int) < ((B s).size : Int) := by rw [B_size]; omega
      have f4 : (a : Int) ≤ ((B s).size : Int) := by rw [B_size]; omega
      have f5 : (0 : Int) ≤ ((a + 1 : Nat) : Int) := by omega
      have f6 : ((a + 1 : Nat) : Int) ≤ ((B s).size : Int) := by rw [B_size]; omega
      have hx1 := Aside0.mk (show wrap64 ((a : Int) + 1) = ((a + 1 : Nat) : Int) by rw [w64 (by omega) (by omega)]; omega)
      have hex : (B s).extract ((a + 1 : Nat) : Int).toNat (B s).size = B (s.drop (a + 1)) := B_tail s (a + 1)
      have hcons : s.drop a = s[a] :: s.drop (a + 1) := List.drop_eq_getElem_cons hal
      have hds := dig_small (s.drop (a + 1))
      have hdev := digits_ev (s.drop (a + 1)) (by rw [List.length_drop]; omega)
      have hadd : ∀ k : Nat, k ≤ 1024 → wrap64 (((a + 1 : Nat) : Int) + (k : Int)) = ((a + 1 + k : Nat) : Int) := fun k hk => by rw [w64 (by omega) (by omega)]; omega
      apply RefEv.succ
      by_cases e95 : s[a] = 95
      · have hb : bt (B s) (a : Int) = 95 := bt_eq hal e95
        simp only [sleuthref1_term.f, if_neg f1, if_pos f2, if_pos f3, if_pos hb, hx1.out]
        rw [hcons, e95, spT, (tw_pos _ (by decide)).1, (tw_pos _ (by decide)).2]
        by_cases hw : (s.drop (a + 1)).takeWhile nsep = []
        · rw [hw, if_pos rfl]
          have e : (s.drop (a + 1)).dropWhile nsep = s.drop (a + 1) := by
            have := tw_dw (s.drop (a + 1))
            rw [hw] at this
            exact this.symm
          rw [e]
          show Ev _ (0, 0, _, ((s.length - (s.drop (a + 1)).length : Nat) : Int))
          rw [List.length_drop, show s.length - (s.length - (a + 1)) = a + 1 by omega]
          exact Ev.now _
        · rw [if_neg (by simpa using hw), if_neg (by simp), numC_nd (by decide) (by decide), tagC_ne (fun d => by simp)]
          obtain ⟨hh, hns⟩ := tw_at hw
          exact ⟨_, _, _, _, Ev.now _, .inr ⟨a + 1, hh, rfl, by omega, hns⟩⟩
      · have hb95 : ¬ bt (B s) (a : Int) = 95 := bt_ne hal e95
        by_cases e33 : s[a] = 33
        · have hb : bt (B s) (a : Int) = 33 := bt_eq hal e33
          simp only [sleuthref1_term.f, if_neg f1, if_pos f2, if_pos f3, if_neg hb95, if_pos hb, hx1.out]
          rw [hcons, e33, spT, (tw_pos _ (by decide)).1, (tw_pos _ (by decide)).2]
          by_cases hw : (s.drop (a + 1)).takeWhile nsep = []
          · rw [hw, if_neg (by decide), if_pos rfl]
            have e : (s.drop (a + 1)).dropWhile nsep = s.drop (a + 1) := by
              have := tw_dw (s.drop (a + 1))
              rw [hw] at this
              exact this.symm
            rw [e]
            show Ev _ (3, 0, _, ((s.length - (s.drop (a + 1)).length : Nat) : Int))
            rw [List.length_drop, show s.length - (s.length - (a + 1)) = a + 1 by omega]
            exact Ev.now _
          · rw [if_neg (by simp), if_neg (by simpa using hw), numC_nd (by decide) (by decide), tagC_ne (fun d => by simp)]
            obtain ⟨hh, hns⟩ := tw_at hw
            exact ⟨_, _, _, _, Ev.now _, .inr ⟨a + 1, hh, rfl, by omega, hns⟩⟩
        · have hb33 : ¬ bt (B s) (a : Int) = 33 := bt_ne hal e33
          by_cases e64 : s[a] = 64
          · have hb : bt (B s) (a : Int) = 64 := bt_eq hal e64
            simp only [sleuthref1_term.f, if_neg f1, if_pos f2, if_pos f3, if_neg hb95, if_neg hb33, if_pos hb, hx1.out, if_pos f5, if_pos f6, hex]
            refine RefEv.bind hdev ?_
            rw [hcons, e64, spT, (tw_pos _ (by decide)).1, (tw_pos _ (by decide)).2, if_neg (by simp), if_neg (by simp), numC_nd (by decide) (by decide)]
            obtain ⟨w', hw'⟩ : ∃ w', (s.drop (a + 1)).takeWhile nsep = w' := ⟨_, rfl⟩
            show RefEv s a _ (match tagC (64 :: (s.drop (a + 1)).takeWhile nsep) with | none => none | some x => if ((s.drop (a + 1)).dropWhile nsep).head? = some 40 then kidsL (spT n) x [] 3 ((s.drop (a + 1)).dropWhile nsep).tail else some (2, x, [], (s.drop (a + 1)).dropWhile nsep))
            rw [hw']
            cases hd : decC w' with
            | some v =>
              have hdig := dig0_some (l := s.drop (a + 1)) (by rw [hw']; exact hd)
              rw [hw'] at hdig
              have h1 := (decC_some hd).1
              have h6 := (decC_some hd).2.2.2
              have hk0 : ¬ ((w'.length : Int) = 0) := by
                intro e; exact h1 (List.length_eq_zero_iff.1 (by omega))
              rw [hdig]
              dsimp only
              simp only [if_neg hk0]
              by_cases hv : v ≤ 99
              · have htag : tagC (64 :: w') = some (v : Int) := by
                  show (match decC w' with | some x => if x ≤ 99 then some (x : Int) else none | none => none) = _
                  rw [hd]; exact if_pos hv
                rw [htag]
                have hvf : ¬ ((v : Int) > 99) := by omega
                simp only [decide_eq_false hvf]
                apply RefEv.succ
                obtain ⟨T, hT⟩ : ∃ T, a + 1 + w'.length = T := ⟨_, rfl⟩
                have hdw : (s.drop (a + 1)).dropWhile nsep = s.drop T := by rw [← drop_takeWhile, hw', List.drop_drop, hT]
                rw [hdw]
                have hle : w'.length ≤ (s.drop (a + 1)).length := by rw [← hw']; exact (List.takeWhile_prefix nsep).length_le
                have hTs : T ≤ s.length := by rw [List.length_drop] at hle; omega
                have hx2 := Aside0.mk (hadd w'.length (by omega))
                rw [hT] at hx2
                have hx3 := Aside0.mk (show wrap64 ((T : Int) + 1) = ((T + 1 : Nat) : Int) by rw [w64 (by omega) (by omega)]; omega)
                show RefEv s a _ (if (s.drop T).head? = some 40 then kidsL (spT n) v [] 3 (s.drop T).tail else some (2, (v : Int), [], s.drop T))
                by_cases hTl : T < s.length
                · have g1 : (T : Int) < ((B s).size : Int) := by rw [B_size]; omega
                  have g2 : (0 : Int) ≤ (T : Int) := by omega
                  by_cases e40 : s[T] = 40
                  · have g3 : bt (B s) (T : Int) = 40 := bt_eq hTl e40
                    simp only [sleuthref1_term.j0, if_neg (show ¬ (false = true) by decide), hx1.out, hx2.out, if_pos g1, if_pos g2, if_pos g3, hx3.out]
                    rw [List.drop_eq_getElem_cons hTl, e40, List.head?_cons, if_pos rfl, List.tail_cons]
                    refine RefEv.eta ?_
                    apply RefEv.succ
                    simp only [sleuthref1_parts.f]
                    exact ref_parts s hs n v ih a 3 [] (T + 1) _ rfl (by omega) (by omega)
                  · have g3 : ¬ bt (B s) (T : Int) = 40 := bt_ne hTl e40
                    simp only [sleuthref1_term.j0, if_neg (show ¬ (false = true) by decide), hx1.out, hx2.out, if_pos g1, if_pos g2, if_neg g3]
                    rw [if_neg (by rw [List.drop_eq_getElem_cons hTl, List.head?_cons]; simpa using e40)]
                    show Ev _ (2, (v : Int), _, ((s.length - (s.drop T).length : Nat) : Int))
                    rw [List.length_drop, show s.length - (s.length - T) = T by omega]
                    exact Ev.now _
                · have g1 : ¬ ((T : Int) < ((B s).size : Int)) := by rw [B_size]; omega
                  simp only [sleuthref1_term.j0, if_neg (show ¬ (false = true) by decide), hx1.out, hx2.out, if_neg g1]
                  rw [if_neg (by rw [List.drop_eq_nil_of_le (by omega)]; simp)]
                  show Ev _ (2, (v : Int), _, ((s.length - (s.drop T).length : Nat) : Int))
                  rw [List.length_drop, show s.length - (s.length - T) = T by omega]
                  exact Ev.now _
              · have htag : tagC (64 :: w') = none := by
                  show (match decC w' with | some x => if x ≤ 99 then some (x : Int) else none | none => none) = _
                  rw [hd]; exact if_neg hv
                rw [htag]
                simp only [decide_eq_true (show (v : Int) > 99 by omega)]
                apply RefEv.succ
                simp only [sleuthref1_term.j0, if_pos]
                exact RefEv.bad
            | none =>
              have htag : tagC (64 :: w') = none := by
                show (match decC w' with | some x => if x ≤ 99 then some (x : Int) else none | none => none) = _
                rw [hd]
              rw [htag]
              have hda := dig_at (s := s) (b := a + 1) (by omega) (by rw [hw']; exact hd)
              obtain ⟨⟨x, k⟩, hxk⟩ : ∃ q, dig0 (s.drop (a + 1)) = q := ⟨_, rfl⟩
              rw [hxk] at hda hds ⊢
              dsimp only at hda hds ⊢
              by_cases hk0 : k = 0
              · subst hk0
                simp only [if_pos (show ((0 : Nat) : Int) = 0 from rfl)]
                apply RefEv.succ
                simp only [sleuthref1_term.j0, if_pos]
                exact RefEv.bad
              · obtain ⟨hh, hns⟩ := hda.resolve_left hk0
                simp only [if_neg (show ¬ ((k : Int) = 0) by omega)]
                by_cases hx : (x : Int) > 99
                · simp only [decide_eq_true hx]
                  apply RefEv.succ
                  simp only [sleuthref1_term.j0, if_pos]
                  exact RefEv.bad
                · simp only [decide_eq_false hx]
                  apply RefEv.succ
                  have hx2 := Aside0.mk (hadd k (by omega))
                  have g1 : ((a + 1 + k : Nat) : Int) < ((B s).size : Int) := by rw [B_size]; omega
                  have g2 : (0 : Int) ≤ ((a + 1 + k : Nat) : Int) := by omega
                  have g3 : ¬ bt (B s) ((a + 1 + k : Nat) : Int) = 40 := bt_ne hh (nsep_ne hns).2.1
                  simp only [sleuthref1_term.j0, if_neg (show ¬ (false = true) by decide), hx1.out, hx2.out, if_pos g1, if_pos g2, if_neg g3]
                  exact ⟨_, _, _, _, Ev.now _, .inr ⟨a + 1 + k, hh, rfl, by omega, hns⟩⟩
          · have hb64 : ¬ bt (B s) (a : Int) = 64 := bt_ne hal e64
            by_cases e45 : s[a] = 45
            · have hb : bt (B s) (a : Int) = 45 := bt_eq hal e45
              simp only [sleuthref1_term.f, if_neg f1, if_pos f2, if_pos f3, if_neg hb95, if_neg hb33, if_neg hb64, if_pos hb, hx1.out, if_pos f5, if_pos f6, hex]
              refine RefEv.bind hdev ?_
              rw [hcons, e45, spT, (tw_pos _ (by decide)).1, (tw_pos _ (by decide)).2, if_neg (show ¬ ((45 : UInt8) :: (s.drop (a + 1)).takeWhile nsep = [95]) by simp), if_neg (show ¬ ((45 : UInt8) :: (s.drop (a + 1)).takeWhile nsep = [33]) by simp), tagC_ne (fun d => by simp)]
              obtain ⟨w', hw'⟩ : ∃ w', (s.drop (a + 1)).takeWhile nsep = w' := ⟨_, rfl⟩
              show RefEv s a _ (match numC (45 :: (s.drop (a + 1)).takeWhile nsep) with | some x => some (1, x, [], (s.drop (a + 1)).dropWhile nsep) | none => none)
              rw [hw']
              simp only [nummay_eq, Option.bind_some]
              cases hd : decC w' with
              | some v =>
                have hdig := dig0_some (l := s.drop (a + 1)) (by rw [hw']; exact hd)
                rw [hw'] at hdig
                have h1 := (decC_some hd).1
                have h6 := (decC_some hd).2.2.2
                have hv6 := decC_lt hd
                have hk0 : ¬ ((w'.length : Int) = 0) := by
                  intro e; exact h1 (List.length_eq_zero_iff.1 (by omega))
                rw [hdig]
                dsimp only
                simp only [if_neg hk0]
                have hnum : numC (45 :: w') = (if v ≠ 0 ∧ v ≤ 32768 then some (-(v : Int)) else none) := by
                  show (match decC w' with | some x => if x ≠ 0 ∧ x ≤ 32768 then some (-(x : Int)) else none | none => none) = _
                  rw [hd]
                rw [hnum]
                by_cases hv0 : v = 0
                · subst hv0
                  simp only [if_pos (show ((0 : Nat) : Int) = 0 from rfl)]
                  exact RefEv.bad
                · simp only [if_neg (show ¬ ((v : Int) = 0) by omega)]
                  have hneg := Aside0.mk (show wrap64 (-(v : Int)) = -(v : Int) from w64 (by omega) (by omega))
                  simp only [hneg.out]
                  by_cases hv : v ≤ 32768
                  · simp only [decide_eq_true (show -32768 ≤ -(v : Int) ∧ -(v : Int) ≤ 32767 by omega), if_pos]
                    rw [if_pos ⟨hv0, hv⟩]
                    obtain ⟨T, hT⟩ : ∃ T, a + 1 + w'.length = T := ⟨_, rfl⟩
                    have hdw : (s.drop (a + 1)).dropWhile nsep = s.drop T := by rw [← drop_takeWhile, hw', List.drop_drop, hT]
                    have hle : w'.length ≤ (s.drop (a + 1)).length := by rw [← hw']; exact (List.takeWhile_prefix nsep).length_le
                    have hTs : T ≤ s.length := by rw [List.length_drop] at hle; omega
                    rw [hdw]
                    show Ev _ (1, -(v : Int), _, ((s.length - (s.drop T).length : Nat) : Int))
                    rw [List.length_drop, show s.length - (s.length - T) = T by omega]
                    simp only [hx1.out, hadd w'.length (by omega), hT]
                    exact Ev.now _
                  · simp only [decide_eq_false (show ¬ (-32768 ≤ -(v : Int) ∧ -(v : Int) ≤ 32767) by omega), if_neg (show ¬ (false = true) by decide)]
                    rw [if_neg (fun h => hv h.2)]
                    exact RefEv.bad
              | none =>
                have hnum : numC (45 :: w') = none := by
                  show (match decC w' with | some x => if x ≠ 0 ∧ x ≤ 32768 then some (-(x : Int)) else none | none => none) = _
                  rw [hd]
                rw [hnum]
                have hda := dig_at (s := s) (b := a + 1) (by omega) (by rw [hw']; exact hd)
                obtain ⟨⟨x, k⟩, hxk⟩ : ∃ q, dig0 (s.drop (a + 1)) = q := ⟨_, rfl⟩
                rw [hxk] at hda hds ⊢
                dsimp only at hda hds ⊢
                by_cases hk0 : k = 0
                · subst hk0
                  simp only [if_pos (show ((0 : Nat) : Int) = 0 from rfl)]
                  exact RefEv.bad
                · obtain ⟨hh, hns⟩ := hda.resolve_left hk0
                  simp only [if_neg (show ¬ ((k : Int) = 0) by omega)]
                  by_cases hx0 : (x : Int) = 0
                  · simp only [if_pos hx0]; exact RefEv.bad
                  · simp only [if_neg hx0]
                    by_cases hb2 : -32768 ≤ wrap64 (-(x : Int)) ∧ wrap64 (-(x : Int)) ≤ 32767
                    · simp only [decide_eq_true hb2, if_pos]
                      clear hb2
                      simp only [hx1.out, hadd k (by omega)]
                      exact ⟨_, _, _, _, Ev.now _, .inr ⟨a + 1 + k, hh, rfl, by omega, hns⟩⟩
                    · simp only [decide_eq_false hb2, if_neg (show ¬ (false = true) by decide)]
                      exact RefEv.bad
            · have hb45 : ¬ bt (B s) (a : Int) = 45 := bt_ne hal e45
              have hex0 : (B s).extract (a : Int).toNat (B s).size = B (s.drop a) := B_tail s a
              simp only [sleuthref1_term.f, if_neg f1, if_pos f2, if_pos f3, if_neg hb95, if_neg hb33, if_neg hb64, if_neg hb45, if_pos f4, hex0]
              refine RefEv.bind (digits_ev (s.drop a) (by rw [List.length_drop]; omega)) ?_
              have hadd0 : ∀ k : Nat, k ≤ 1024 → wrap64 ((a : Int) + (k : Int)) = ((a + k : Nat) : Int) := fun k hk => by rw [w64 (by omega) (by omega)]; omega
              obtain ⟨w', hw'⟩ : ∃ w', (s.drop a).takeWhile nsep = w' := ⟨_, rfl⟩
              have hhead : ∀ (b : UInt8) (t : List UInt8), w' = b :: t → b = s[a] := by
                intro b t e
                rw [hcons, List.takeWhile_cons] at hw'
                cases hn : nsep s[a] with
                | true => rw [hn, e] at hw'; exact (List.cons.inj hw').1.symm
                | false => rw [hn, e] at hw'; cases hw'
              rw [spT, hw', if_neg (fun e => e95 (hhead _ _ e).symm), if_neg (fun e => e33 (hhead _ _ e).symm), tagC_ne (fun d e => e64 (hhead _ _ e).symm), numC_plain (fun d e => e45 (hhead _ _ e).symm)]
              simp only [nummay_eq, Option.bind_some]
              have hds0 := dig_small (s.drop a)
              cases hd : decC w' with
              | some v =>
                have hdig := dig0_some (l := s.drop a) (by rw [hw']; exact hd)
                rw [hw'] at hdig
                have h1 := (decC_some hd).1
                have h6 := (decC_some hd).2.2.2
                have hk0 : ¬ ((w'.length : Int) = 0) := by
                  intro e; exact h1 (List.length_eq_zero_iff.1 (by omega))
                rw [hdig]
                dsimp only
                simp only [if_neg hk0]
                by_cases hv : v ≤ 32767
                · simp only [decide_eq_true (show -32768 ≤ (v : Int) ∧ (v : Int) ≤ 32767 by omega), if_pos]
                  rw [if_pos hv]
                  obtain ⟨T, hT⟩ : ∃ T, a + w'.length = T := ⟨_, rfl⟩
                  have hdw : (s.drop a).dropWhile nsep = s.drop T := by rw [← drop_takeWhile, hw', List.drop_drop, hT]
                  have hle : w'.length ≤ (s.drop a).length := by rw [← hw']; exact (List.takeWhile_prefix nsep).length_le
                  have hTs : T ≤ s.length := by rw [List.length_drop] at hle; omega
                  rw [hdw]
                  show Ev _ (1, (v : Int), _, ((s.length - (s.drop T).length : Nat) : Int))
                  rw [List.length_drop, show s.length - (s.length - T) = T by omega]
                  simp only [hadd0 w'.length (by omega), hT]
                  exact Ev.now _
                · simp only [decide_eq_false (show ¬ (-32768 ≤ (v : Int) ∧ (v : Int) ≤ 32767) by omega), if_neg (show ¬ (false = true) by decide)]
                  rw [if_neg hv]
                  exact RefEv.bad
              | none =>
                have hda := dig_at (s := s) (b := a) (by omega) (by rw [hw']; exact hd)
                obtain ⟨⟨x, k⟩, hxk⟩ : ∃ q, dig0 (s.drop a) = q := ⟨_, rfl⟩
                rw [hxk] at hda hds0 ⊢
                dsimp only at hda hds0 ⊢
                by_cases hk0 : k = 0
                · subst hk0
                  simp only [if_pos (show ((0 : Nat) : Int) = 0 from rfl)]
                  exact RefEv.bad
                · obtain ⟨hh, hns⟩ := hda.resolve_left hk0
                  simp only [if_neg (show ¬ ((k : Int) = 0) by omega)]
                  by_cases hb2 : -32768 ≤ (x : Int) ∧ (x : Int) ≤ 32767
                  · simp only [decide_eq_true hb2, if_pos]
                    simp only [hadd0 k (by omega)]
                    exact ⟨_, _, _, _, Ev.now _, .inr ⟨a + k, hh, rfl, by omega, hns⟩⟩
                  · simp only [decide_eq_false hb2, if_neg (show ¬ (false = true) by decide)]
                    exact RefEv.bad
def noCut : Int × Int × List ByteArray × Int := (0, 0, [], 200)
def cutL (l : List UInt8) : Int × Int × List ByteArray × Int :=
  if l.length > 1024 then noCut else match spT (l.length + 1) l with
    | some r => if r.2.2.2 = [] then (r.1, r.2.1, r.2.2.1, 0) else noCut
    | none => noCut
def cutS (s : ByteArray) : Int × Int × List ByteArray × Int := cutL s.data.toList
def mayS (s : ByteArray) : Bool := decide ((cutS s).2.2.2 = 0)
theorem refCut_ev (s : ByteArray) : Ev (fun k => sleuthref1_Cut.f k s) (cutS s) := by
  rw [← B_data s]
  generalize s.data.toList = l
  show Ev _ (cutL l)
  unfold cutL
  by_cases c : l.length > 1024
  · rw [if_pos c]
    have c1 : ((B l).size : Int) > 1024 := by rw [B_size]; omega
    simp only [sleuthref1_Cut.f, if_pos c1]
    exact Ev.now _
  · rw [if_neg c]
    have c1 : ¬ (((B l).size : Int) > 1024) := by rw [B_size]; omega
    simp only [sleuthref1_Cut.f, if_neg c1]
    have h := ref_term l (by omega) (l.length + 1) 0 (by omega) (by omega)
    rw [List.drop_zero] at h
    cases hs : spT (l.length + 1) l with
    | none =>
      rw [hs] at h
      obtain ⟨x, y, z, d, hev, hd⟩ := h
      refine Ev.bind hev ?_
      have : ¬ d = ((B l).size : Int) := by
        rw [B_size]
        rcases hd with rfl | ⟨t, ht, rfl, _⟩ <;> omega
      simp only [if_neg this]
      exact Ev.now _
    | some r =>
      rw [hs] at h
      refine Ev.bind (show Ev _ (r.1, r.2.1, r.2.2.1, ((l.length - r.2.2.2.length : Nat) : Int)) from h) ?_
      obtain ⟨p, hp⟩ := spT_suf _ l r hs
      have hlen : l.length = p.length + r.2.2.2.length := by conv => lhs; rw [hp, List.length_append]
      by_cases c2 : r.2.2.2 = []
      · have : ((l.length - r.2.2.2.length : Nat) : Int) = ((B l).size : Int) := by rw [B_size, c2]; rfl
        simp only [if_pos this, if_pos c2]
        exact Ev.now _
      · have h0 : r.2.2.2.length ≠ 0 := fun e => c2 (List.length_eq_zero_iff.1 e)
        have : ¬ ((l.length - r.2.2.2.length : Nat) : Int) = ((B l).size : Int) := by rw [B_size]; omega
        simp only [if_neg this, if_neg c2]
        exact Ev.now _
theorem may_ev (s : ByteArray) : Ev (fun k => term_May.f k s) (mayS s) := by
  unfold mayS cutS
  rw [← B_data s]
  generalize s.data.toList = l
  unfold cutL
  by_cases c : l.length > 1024
  · rw [if_pos c]
    have c1 : ((B l).size : Int) > 1024 := by rw [B_size]; omega
    simp only [term_May.f, if_pos c1]
    exact Ev.now _
  · rw [if_neg c]
    have c1 : ¬ (((B l).size : Int) > 1024) := by rw [B_size]; omega
    simp only [term_May.f, if_neg c1]
    have h := cut_ev (l.length + 1) l (by omega) (by omega)
    cases hs : spT (l.length + 1) l with
    | none =>
      rw [hs] at h
      obtain ⟨x, y, z, d, hev⟩ := h
      refine Ev.bind hev ?_
      simp only [if_neg (show ¬ (false = true) by decide)]
      exact Ev.now _
    | some r =>
      rw [hs] at h
      refine Ev.bind (show Ev _ (r.1, r.2.1, r.2.2.1, B r.2.2.2, true) from h) ?_
      simp only [if_pos, B_toList]
      by_cases c2 : r.2.2.2 = []
      · simp only [if_pos c2]
        rw [c2]
        exact Ev.now _
      · simp only [if_neg c2]
        have : (r.2.2.2 == ([] : List UInt8)) = false := by rw [beq_eq_false_iff_ne]; exact c2
        rw [this]
        exact Ev.now _
theorem refMay_ev (s : ByteArray) : Ev (fun k => sleuthref1_TermMay.f k s) (mayS s) := by
  unfold sleuthref1_TermMay.f
  refine Ev.bind (refCut_ev s) ?_
  have e : ((cutS s).2.2.2 == 0) = mayS s := by unfold mayS; rw [Bool.eq_iff_iff]; simp
  simp only [e]
  exact Ev.now _

end Go.Proofs.YtjodjfbhaojhjaaDoor.G
end
section
namespace Go.Proofs.YtjodjfbhaojhjaaDoor.G
open Go.RowKit Go.Proofs.YtjodjfbhaojhjaaDoorW.PrintWords Go.Proofs.YtjodjfbhaojhjaaDoorW.PrintLast Go.Proofs.YtjodjfbhaojhjaaDoorW.PrintMore
attribute [local go_sem] max2_int min2_int max_two min_two max_three min_three max_four min_four
set_option linter.unusedVariables false
set_option linter.unusedSimpArgs false
def sleuthref12_stands.f (k : Nat) (a0_0 : Int) (a0_1 : Int) (l0_2 : List ByteArray) (a0_3 : ByteArray) (a1 : Int) : Option (Bool) := if a1 < 512 then ((sleuthref12_texts.f k a0_0 a0_1 l0_2 a0_3).bind fun t296 => (if t296 = true then (if a1 = 0 then (if a0_1 = (-1) then (some true) else (if a1 > 0 then ((sleuthref12_upTo.f a0_1 0 (wrap64 (a1 - 1))).bind fun t297 => (some t297)) else (some false))) else (if a1 > 0 then ((sleuthref12_upTo.f a0_1 0 (wrap64 (a1 - 1))).bind fun t298 => (some t298)) else (some false))) else (some false))) else (some false)
set_option maxHeartbeats 8000000 in
set_option maxRecDepth 100000 in
theorem sleuthref12_stands.calls (k : Nat) (a0_0 : Int) (a0_1 : Int) (A0_2 : Option Addr) (c0_2 : Nat) (l0_2 : List ByteArray) (a0_3 : ByteArray) (a1 : Int) (r : Bool) (w : World) (hr0_2 : Kd.C Kd.string w A0_2 l0_2.length l0_2) (hc0_2 : l0_2.length ≤ c0_2) (h : sleuthref12_stands.f k a0_0 a0_1 l0_2 a0_3 a1 = some r) :
    Calls Tryd.prog 17 #[.agg #[.int .i64 a0_0, .int .i64 a0_1, .slice A0_2 l0_2.length c0_2, .string a0_3], .int .i64 a1] w fun e w' => e = .returned (.bool r) ∧ Below w.heap.size w w' := by
  have hu35 := Tryd.underlying35
  have HR0_2 := Aside0.mk hr0_2
  have HC0_2 := Aside0.mk hc0_2
  clear hr0_2 hc0_2
  have HB := Aside0.mk (Below.refl w.heap.size w)
  have H : (if a1 < 512 then ((sleuthref12_texts.f k a0_0 a0_1 l0_2 a0_3).bind fun t2 => (if t2 = true then (if a1 = 0 then (if a0_1 = (-1) then (some true) else (if a1 > 0 then ((sleuthref12_upTo.f a0_1 0 (wrap64 (a1 - 1))).bind fun t0 => (some t0)) else (some false))) else (if a1 > 0 then ((sleuthref12_upTo.f a0_1 0 (wrap64 (a1 - 1))).bind fun t1 => (some t1)) else (some false))) else (some false))) else (some false)) = some r := h
  clear h
  by_cases c3 : a1 < 512
  case neg =>
    rw [if_neg c3] at H
    have c3b0 : decide (a1 < 512) = false := decide_eq_false c3
    clear c3
    obtain rfl := Option.some.inj H
    go_enter Tryd.func17, Tryd.ntmps17
    go_wp2_with (first | ((with_reducible refine gate_dst (N := 2) rfl ?_); refine boxE_ 2 #[.int .i64 a0_0, .int .i64 a0_1, .slice A0_2 l0_2.length c0_2, .string a0_3] 35 ?_; intro g0 hg w0 hbox hb; have n0_ := Aside0.mk (below_step hB_ hb); have n1_ := Aside0.mk (hbox); have n2_ := Aside0.mk ((gE_ hg : w.heap.size ≤ g0)); have n3_ := Aside0.mk ((gE_ hg : w.heap.size ≤ g0)); clear HB; have HB := n0_; have B0 := n1_; have W0 := n2_; have E0 := n3_; clear n0_ n1_ n2_ n3_; clear hb hbox hg))
    go_ret
    exact ⟨hV_, hC_⟩

  rw [if_pos c3] at H
  have c3b0 : decide (a1 < 512) = true := decide_eq_true c3
  clear c3
  replace H := Option.bind_eq_some_iff.mp H
  obtain ⟨t2, A40, H⟩ := H
  replace H : (if t2 = true then (if a1 = 0 then (if a0_1 = (-1) then (some true) else (if a1 > 0 then ((sleuthref12_upTo.f a0_1 0 (wrap64 (a1 - 1))).bind fun t0 => (some t0)) else (some false))) else (if a1 > 0 then ((sleuthref12_upTo.f a0_1 0 (wrap64 (a1 - 1))).bind fun t1 => (some t1)) else (some false))) else (some false)) = some r := H
  have A4 := Aside0.mk A40
  clear A40
  by_cases c5 : t2 = true
  case neg =>
    replace c5 := Bool.eq_false_iff.mpr c5
    subst c5
    have H1 : (some false) = some r := by rw [if_neg (show ¬ (false = true) by decide)] at H; exact H
    clear H
    have H := H1
    clear H1
    obtain rfl := Option.some.inj H
    go_enter Tryd.func17, Tryd.ntmps17
    go_wp2_with (first | ((with_reducible refine gate_dst (N := 2) rfl ?_); refine boxE_ 2 #[.int .i64 a0_0, .int .i64 a0_1, .slice A0_2 l0_2.length c0_2, .string a0_3] 35 ?_; intro g0 hg w1 hbox hb; have n0_ := Aside0.mk (below_step hB_ hb); have n1_ := Aside0.mk (hbox); have n2_ := Aside0.mk ((gE_ hg : w.heap.size ≤ g0)); have n3_ := Aside0.mk ((gE_ hg : w.heap.size ≤ g0)); clear HB; have HB := n0_; have B0 := n1_; have W0 := n2_; have E0 := n3_; clear n0_ n1_ n2_ n3_; clear hb hbox hg; obtain ⟨z0, z1, z2, z3, f0, f1, f2, f3⟩ := bx4_ B0.out) | (go_at_call 21; (with_reducible refine (sleuthref12_texts.calls k a0_0 a0_1 _ _ l0_2 a0_3 false _ ?s1 ?s2 A4.out).mono ?_); (case s1 => exact cB_ HR0_2.out); (case s2 => exact HC0_2.out); rintro e w2 ⟨rfl, hb⟩; have n0_ := Aside0.mk (bB_ B0.out hb); have n1_ := Aside0.mk (below_step hC_ hb); clear B0 HB; have B0 := n0_; have HB := n1_; clear n0_ n1_; (try clear hb); (try clear hb2); (try clear hk); (try clear hi)))
    go_ret
    exact ⟨hV_, hC_⟩
  subst c5
  have H1 : (if a1 = 0 then (if a0_1 = (-1) then (some true) else (if a1 > 0 then ((sleuthref12_upTo.f a0_1 0 (wrap64 (a1 - 1))).bind fun t0 => (some t0)) else (some false))) else (if a1 > 0 then ((sleuthref12_upTo.f a0_1 0 (wrap64 (a1 - 1))).bind fun t1 => (some t1)) else (some false))) = some r := by rw [if_pos rfl] at H; exact H
  clear H
  have H := H1
  clear H1
  by_cases c6 : a1 = 0
  case neg =>
    rw [if_neg c6] at H
    have c6b0 : (a1 == 0) = false := beq_eq_false_iff_ne.mpr c6
    have c6b1 : (a1 != 0) = true := bne_iff_ne.mpr c6
    by_cases c22 : a1 > 0
    case neg =>
      rw [if_neg c22] at H
      have c22b0 : decide (0 < a1) = false := decide_eq_false c22
      clear c22
      obtain rfl := Option.some.inj H
      go_enter Tryd.func17, Tryd.ntmps17
      go_wp2_with (first | ((with_reducible refine gate_dst (N := 2) rfl ?_); refine boxE_ 2 #[.int .i64 a0_0, .int .i64 a0_1, .slice A0_2 l0_2.length c0_2, .string a0_3] 35 ?_; intro g0 hg w3 hbox hb; have n0_ := Aside0.mk (below_step hB_ hb); have n1_ := Aside0.mk (hbox); have n2_ := Aside0.mk ((gE_ hg : w.heap.size ≤ g0)); have n3_ := Aside0.mk ((gE_ hg : w.heap.size ≤ g0)); clear HB; have HB := n0_; have B0 := n1_; have W0 := n2_; have E0 := n3_; clear n0_ n1_ n2_ n3_; clear hb hbox hg; obtain ⟨z4, z5, z6, z7, f4, f5, f6, f7⟩ := bx4_ B0.out) | (go_at_call 21; (with_reducible refine (sleuthref12_texts.calls k a0_0 a0_1 _ _ l0_2 a0_3 true _ ?s1 ?s2 A4.out).mono ?_); (case s1 => exact cB_ HR0_2.out); (case s2 => exact HC0_2.out); rintro e w4 ⟨rfl, hb⟩; have n0_ := Aside0.mk (bB_ B0.out hb); have n1_ := Aside0.mk (below_step hC_ hb); clear B0 HB; have B0 := n0_; have HB := n1_; clear n0_ n1_; (try clear hb); (try clear hb2); (try clear hk); (try clear hi)))
      go_ret
      exact ⟨hV_, hC_⟩
    rw [if_pos c22] at H
    have c22b0 : decide (0 < a1) = true := decide_eq_true c22
    clear c22
    replace H := Option.bind_eq_some_iff.mp H
    obtain ⟨t1, A230, H⟩ := H
    replace H : (some t1) = some r := H
    have A23 := Aside0.mk A230
    clear A230
    obtain rfl := Option.some.inj H
    go_enter Tryd.func17, Tryd.ntmps17
    go_wp2_with (first | ((with_reducible refine gate_dst (N := 2) rfl ?_); refine boxE_ 2 #[.int .i64 a0_0, .int .i64 a0_1, .slice A0_2 l0_2.length c0_2, .string a0_3] 35 ?_; intro g0 hg w5 hbox hb; have n0_ := Aside0.mk (below_step hB_ hb); have n1_ := Aside0.mk (hbox); have n2_ := Aside0.mk ((gE_ hg : w.heap.size ≤ g0)); have n3_ := Aside0.mk ((gE_ hg : w.heap.size ≤ g0)); clear HB; have HB := n0_; have B0 := n1_; have W0 := n2_; have E0 := n3_; clear n0_ n1_ n2_ n3_; clear hb hbox hg; obtain ⟨z8, z9, z10, z11, f8, f9, f10, f11⟩ := bx4_ B0.out) | (go_at_call 21; (with_reducible refine (sleuthref12_texts.calls k a0_0 a0_1 _ _ l0_2 a0_3 true _ ?s1 ?s2 A4.out).mono ?_); (case s1 => exact cB_ HR0_2.out); (case s2 => exact HC0_2.out); rintro e w6 ⟨rfl, hb⟩; have n0_ := Aside0.mk (bB_ B0.out hb); have n1_ := Aside0.mk (below_step hC_ hb); clear B0 HB; have B0 := n0_; have HB := n1_; clear n0_ n1_; (try clear hb); (try clear hb2); (try clear hk); (try clear hi); obtain ⟨z12, z13, z14, z15, f12, f13, f14, f15⟩ := bx4_ B0.out) | (go_at_call 22; (with_reducible refine (sleuthref12_upTo.calls a0_1 0 (wrap64 (a1 - 1)) t1 _ A23.out).mono ?_); rintro e w' ⟨rfl, ⟨nd, rfl⟩⟩))
    go_ret
    exact ⟨hV_, hC_⟩
  rw [if_pos c6] at H
  have c6b0 : (a1 == 0) = true := beq_iff_eq.mpr c6
  have c6b1 : (a1 != 0) = false := bne_eq_false_iff_eq.mpr c6
  clear c6
  by_cases c7 : a0_1 = (-1)
  case pos =>
    rw [if_pos c7] at H
    have c7b0 : (a0_1 == (-1)) = true := beq_iff_eq.mpr c7
    have c7b1 : (a0_1 != (-1)) = false := bne_eq_false_iff_eq.mpr c7
    clear c7
    obtain rfl := Option.some.inj H
    go_enter Tryd.func17, Tryd.ntmps17
    go_wp2_with (first | ((with_reducible refine gate_dst (N := 2) rfl ?_); refine boxE_ 2 #[.int .i64 a0_0, .int .i64 a0_1, .slice A0_2 l0_2.length c0_2, .string a0_3] 35 ?_; intro g0 hg w8 hbox hb; have n0_ := Aside0.mk (below_step hB_ hb); have n1_ := Aside0.mk (hbox); have n2_ := Aside0.mk ((gE_ hg : w.heap.size ≤ g0)); have n3_ := Aside0.mk ((gE_ hg : w.heap.size ≤ g0)); clear HB; have HB := n0_; have B0 := n1_; have W0 := n2_; have E0 := n3_; clear n0_ n1_ n2_ n3_; clear hb hbox hg; obtain ⟨z16, z17, z18, z19, f16, f17, f18, f19⟩ := bx4_ B0.out) | (go_at_call 21; (with_reducible refine (sleuthref12_texts.calls k a0_0 a0_1 _ _ l0_2 a0_3 true _ ?s1 ?s2 A4.out).mono ?_); (case s1 => exact cB_ HR0_2.out); (case s2 => exact HC0_2.out); rintro e w7 ⟨rfl, hb⟩; have n0_ := Aside0.mk (bB_ B0.out hb); have n1_ := Aside0.mk (below_step hC_ hb); clear B0 HB; have B0 := n0_; have HB := n1_; clear n0_ n1_; (try clear hb); (try clear hb2); (try clear hk); (try clear hi); obtain ⟨z20, z21, z22, z23, f20, f21, f22, f23⟩ := bx4_ B0.out))
    go_ret
    exact ⟨hV_, hC_⟩
  rw [if_neg c7] at H
  have c7b0 : (a0_1 == (-1)) = false := beq_eq_false_iff_ne.mpr c7
  have c7b1 : (a0_1 != (-1)) = true := bne_iff_ne.mpr c7
  by_cases c12 : a1 > 0
  case neg =>
    rw [if_neg c12] at H
    have c12b0 : decide (0 < a1) = false := decide_eq_false c12
    clear c12
    obtain rfl := Option.some.inj H
    go_enter Tryd.func17, Tryd.ntmps17
    go_wp2_with (first | ((with_reducible refine gate_dst (N := 2) rfl ?_); refine boxE_ 2 #[.int .i64 a0_0, .int .i64 a0_1, .slice A0_2 l0_2.length c0_2, .string a0_3] 35 ?_; intro g0 hg w9 hbox hb; have n0_ := Aside0.mk (below_step hB_ hb); have n1_ := Aside0.mk (hbox); have n2_ := Aside0.mk ((gE_ hg : w.heap.size ≤ g0)); have n3_ := Aside0.mk ((gE_ hg : w.heap.size ≤ g0)); clear HB; have HB := n0_; have B0 := n1_; have W0 := n2_; have E0 := n3_; clear n0_ n1_ n2_ n3_; clear hb hbox hg; obtain ⟨z24, z25, z26, z27, f24, f25, f26, f27⟩ := bx4_ B0.out) | (go_at_call 21; (with_reducible refine (sleuthref12_texts.calls k a0_0 a0_1 _ _ l0_2 a0_3 true _ ?s1 ?s2 A4.out).mono ?_); (case s1 => exact cB_ HR0_2.out); (case s2 => exact HC0_2.out); rintro e w20 ⟨rfl, hb⟩; have n0_ := Aside0.mk (bB_ B0.out hb); have n1_ := Aside0.mk (below_step hC_ hb); clear B0 HB; have B0 := n0_; have HB := n1_; clear n0_ n1_; (try clear hb); (try clear hb2); (try clear hk); (try clear hi); obtain ⟨z28, z29, z30, z31, f28, f29, f30, f31⟩ := bx4_ B0.out))
    go_ret
    exact ⟨hV_, hC_⟩
  rw [if_pos c12] at H
  have c12b0 : decide (0 < a1) = true := decide_eq_true c12
  clear c12
  replace H := Option.bind_eq_some_iff.mp H
  obtain ⟨t0, A130, H⟩ := H
  replace H : (some t0) = some r := H
  have A13 := Aside0.mk A130
  clear A130
  obtain rfl := Option.some.inj H
  go_enter Tryd.func17, Tryd.ntmps17
  go_wp2_with (first | ((with_reducible refine gate_dst (N := 2) rfl ?_); refine boxE_ 2 #[.int .i64 a0_0, .int .i64 a0_1, .slice A0_2 l0_2.length c0_2, .string a0_3] 35 ?_; intro g0 hg w14 hbox hb; have n0_ := Aside0.mk (below_step hB_ hb); have n1_ := Aside0.mk (hbox); have n2_ := Aside0.mk ((gE_ hg : w.heap.size ≤ g0)); have n3_ := Aside0.mk ((gE_ hg : w.heap.size ≤ g0)); clear HB; have HB := n0_; have B0 := n1_; have W0 := n2_; have E0 := n3_; clear n0_ n1_ n2_ n3_; clear hb hbox hg; obtain ⟨z32, z33, z34, z35, f32, f33, f34, f35⟩ := bx4_ B0.out) | (go_at_call 21; (with_reducible refine (sleuthref12_texts.calls k a0_0 a0_1 _ _ l0_2 a0_3 true _ ?s1 ?s2 A4.out).mono ?_); (case s1 => exact cB_ HR0_2.out); (case s2 => exact HC0_2.out); rintro e w16 ⟨rfl, hb⟩; have n0_ := Aside0.mk (bB_ B0.out hb); have n1_ := Aside0.mk (below_step hC_ hb); clear B0 HB; have B0 := n0_; have HB := n1_; clear n0_ n1_; (try clear hb); (try clear hb2); (try clear hk); (try clear hi); obtain ⟨z36, z37, z38, z39, f36, f37, f38, f39⟩ := bx4_ B0.out) | (go_at_call 22; (with_reducible refine (sleuthref12_upTo.calls a0_1 0 (wrap64 (a1 - 1)) t0 _ A13.out).mono ?_); rintro e w' ⟨rfl, ⟨nd, rfl⟩⟩))
  go_ret
  exact ⟨hV_, hC_⟩
def sleuthref12_TrailMay.l0 : Nat → List (S35) → Int → Option (Bool)
  | 0, _, _ => none
  | k + 1, x0, x3 => if x3 < (x0.length : Int) then (if 0 ≤ x3 then ((sleuthref12_stands.f k ((rd_T35 x0 x3).f0) ((rd_T35 x0 x3).f1) ((rd_T35 x0 x3).f2) ((rd_T35 x0 x3).f3) x3).bind fun t300 => (if t300 = true then (sleuthref12_TrailMay.l0 k x0 (wrap64 (x3 + 1))) else (some false))) else (none)) else (some (decide ((x0.length : Int) > 0)))
def sleuthref12_TrailMay.f (k : Nat) (l0 : List (S35)) : Option (Bool) := sleuthref12_TrailMay.l0 k l0 0
set_option maxHeartbeats 8000000 in
set_option maxRecDepth 100000 in
theorem sleuthref12_TrailMay.calls (k : Nat) (A0 : Option Addr) (c0 : Nat) (l0 : List (S35)) (r : Bool) (w : World) (hr0 : Kd.C k35 w A0 l0.length l0) (hc0 : l0.length ≤ c0) (h : sleuthref12_TrailMay.f k l0 = some r) :
    Calls Tryd.prog 9 #[.slice A0 l0.length c0] w fun e w' => e = .returned (.bool r) ∧ Below w.heap.size w w' := by
  have hu35 := Tryd.underlying35
  have HR0 := Aside0.mk hr0
  have HC0 := Aside0.mk hc0
  clear hr0 hc0
  have HB := Aside0.mk (Below.refl w.heap.size w)
  have H : (sleuthref12_TrailMay.l0 k l0 0) = some r := h
  clear h
  have H' := Aside0.mk H
  clear H
  go_enter Tryd.func9, Tryd.ntmps9
  go_wp2
  go_loopg [3] k (fun kq v3 w' => ∃ (x0 : Int), v3 = .int .i64 x0 ∧ Aside0 (sleuthref12_TrailMay.l0 kq l0 x0 = some r) ∧ Aside0 (kq ≤ k) ∧ Aside0 (Below w.heap.size w w'))
  case atStart => exact ⟨(0), hW_, H', ⟨Nat.le_refl _⟩, ⟨hC_⟩⟩
  case round =>
    clear H'
    obtain ⟨x0, rfl, HA, HK1, HB⟩ := hrel
    cases gk with
    | zero => exact absurd HA.out (by simp [sleuthref12_TrailMay.l0])
    | succ k1 =>
      have H := HA.out
      clear HA
      simp only [sleuthref12_TrailMay.l0] at H
      by_cases c2 : x0 < (l0.length : Int)
      case neg =>
        rw [if_neg c2] at H
        have c2b0 : decide (x0 < (l0.length : Int)) = false := decide_eq_false c2
        clear c2
        obtain rfl := Option.some.inj H
        go_wp2
        go_ret
        exact ⟨hV_, hC_⟩

      rw [if_pos c2] at H
      have c2b0 : decide (x0 < (l0.length : Int)) = true := decide_eq_true c2
      clear c2
      replace H := ifI_ H; obtain ⟨c3, H⟩ := H
      have c3b0 : decide (0 ≤ x0) = true := decide_eq_true c3
      clear c3
      replace H := Option.bind_eq_some_iff.mp H
      obtain ⟨t0, A40, H⟩ := H
      replace H : (if t0 = true then (sleuthref12_TrailMay.l0 k1 l0 (wrap64 (x0 + 1))) else (some false)) = some r := H
      have A4 := Aside0.mk A40
      clear A40
      by_cases c5 : t0 = true
      case neg =>
        replace c5 := Bool.eq_false_iff.mpr c5
        subst c5
        have H1 : (some false) = some r := by rw [if_neg (show ¬ (false = true) by decide)] at H; exact H
        clear H
        have H := H1
        clear H1
        obtain rfl := Option.some.inj H
        have p299 : 0 ≤ (x0 : Int) := of_decide_eq_true hA_
        have q299 : x0 < (l0.length : Int) := of_decide_eq_true hA_
        obtain ⟨d0, A299_2, c299_2, e299, h0, h1, h2, h3, hl299_2, hi299_2⟩ := at_T35 HR0.out x0 p299 q299
        cases e299
        replace h0 := cl_ HB.out h0
        replace h1 := cl_ HB.out h1
        replace h2 := cl_ HB.out h2
        replace h3 := cl_ HB.out h3
        have HR299_2 := Aside0.mk hi299_2
        have HC299_2 := Aside0.mk hl299_2
        clear hi299_2 hl299_2
        replace p299 := eq_true p299
        replace q299 := eq_true q299
        go_wp2_with (first | ((with_reducible refine gate_callee (f := 17) rfl ?_); refine goesL_ (some 15) rfl rfl Tryd.func17 (by kernel_rfl) rfl #[.agg #[.int .i64 ((rd_T35 l0 x0).f0), .int .i64 ((rd_T35 l0 x0).f1), .slice A299_2 ((rd_T35 l0 x0).f2).length c299_2, .string ((rd_T35 l0 x0).f3)], .int .i64 x0] rfl hL_ ?_; (with_reducible refine (sleuthref12_stands.calls k1 ((rd_T35 l0 x0).f0) ((rd_T35 l0 x0).f1) _ _ ((rd_T35 l0 x0).f2) ((rd_T35 l0 x0).f3) x0 false _ ?s1 ?s2 A4.out).mono ?_); (case s1 => exact cB_ HR299_2.out); (case s2 => exact HC299_2.out); rintro e w7 ⟨rfl, hb⟩; refine ⟨_, rfl, ?_⟩; have n0_ := Aside0.mk (below_step hB_ hb); clear HB; have HB := n0_; clear n0_; (try clear hb); (try clear hb2); (try clear hk); (try clear hi)))
        go_ret
        exact ⟨hV_, hC_⟩
      subst c5
      have H1 : (sleuthref12_TrailMay.l0 k1 l0 (wrap64 (x0 + 1))) = some r := by rw [if_pos rfl] at H; exact H
      clear H
      have H := H1
      clear H1
      have H' := Aside0.mk H
      clear H
      have p299 : 0 ≤ (x0 : Int) := of_decide_eq_true hA_
      have q299 : x0 < (l0.length : Int) := of_decide_eq_true hA_
      obtain ⟨d0, A299_2, c299_2, e299, h0, h1, h2, h3, hl299_2, hi299_2⟩ := at_T35 HR0.out x0 p299 q299
      cases e299
      replace h0 := cl_ HB.out h0
      replace h1 := cl_ HB.out h1
      replace h2 := cl_ HB.out h2
      replace h3 := cl_ HB.out h3
      have HR299_2 := Aside0.mk hi299_2
      have HC299_2 := Aside0.mk hl299_2
      clear hi299_2 hl299_2
      replace p299 := eq_true p299
      replace q299 := eq_true q299
      go_wp2_with (first | ((with_reducible refine gate_callee (f := 17) rfl ?_); refine goesL_ (some 15) rfl rfl Tryd.func17 (by kernel_rfl) rfl #[.agg #[.int .i64 ((rd_T35 l0 x0).f0), .int .i64 ((rd_T35 l0 x0).f1), .slice A299_2 ((rd_T35 l0 x0).f2).length c299_2, .string ((rd_T35 l0 x0).f3)], .int .i64 x0] rfl hL_ ?_; (with_reducible refine (sleuthref12_stands.calls k1 ((rd_T35 l0 x0).f0) ((rd_T35 l0 x0).f1) _ _ ((rd_T35 l0 x0).f2) ((rd_T35 l0 x0).f3) x0 true _ ?s1 ?s2 A4.out).mono ?_); (case s1 => exact cB_ HR299_2.out); (case s2 => exact HC299_2.out); rintro e w6 ⟨rfl, hb⟩; refine ⟨_, rfl, ?_⟩; have n0_ := Aside0.mk (below_step hB_ hb); clear HB; have HB := n0_; clear n0_; (try clear hb); (try clear hb2); (try clear hk); (try clear hi)))
      go_roundg k1
      case measure => have := HK1.out; omega
      case rel => exact ⟨(wrap64 (x0 + 1)), hW_, H', ⟨by have := HK1.out; omega⟩, ⟨hC_⟩⟩
end Go.Proofs.YtjodjfbhaojhjaaDoor.G
end
section
namespace Go.Proofs.YtjodjfbhaojhjaaDoor.G
open Go.RowKit Go.Proofs.YtjodjfbhaojhjaaDoorW.PrintWords Go.Proofs.YtjodjfbhaojhjaaDoorW.PrintLast Go.Proofs.YtjodjfbhaojhjaaDoorW.PrintMore
set_option linter.unusedVariables false
set_option linter.unusedSimpArgs false
abbrev Nd := S35
abbrev rn (ns : List Nd) (i : Int) : Nd := rd_T35 ns i
theorem rn_eq (ns : List Nd) (i : Nat) (h : i < ns.length) : rn ns (i : Int) = ns[i] := by
  show ns.getD _ _ = _
  rw [Int.toNat_natCast, List.getD_eq_getElem?_getD, List.getElem?_eq_getElem h]; rfl

def okN (ns : List Nd) : Prop := ns.length ≤ 2513169434845 ∧ ∀ x ∈ ns, x.f2.length ≤ 8796093021952
theorem okN.at {ns : List Nd} (h : okN ns) (i : Int) : (rn ns i).f2.length ≤ 8796093021952 := by
  show (ns.getD i.toNat _).f2.length ≤ _
  rw [List.getD_eq_getElem?_getD]
  cases hg : ns[i.toNat]? with
  | none => exact Nat.zero_le _
  | some x => exact h.2 x (List.mem_of_getElem? hg)

def eqS (x : Nd) : Bool := decide (0 ≤ x.f0) && decide (x.f0 < 8) && decide (x.f2.length ≤ 3) && x.f2.all mayS && mayS x.f3
def nextS (x : Nd) (i : Int) : Bool := decide (i < 512) && (decide (0 ≤ x.f1 ∧ x.f1 < i) || decide (i = 0 ∧ x.f1 = -1)) && eqS x
def mayT (ns : List Nd) : Bool := decide (0 < ns.length) && (List.range ns.length).all fun i => nextS (rn ns (i : Int)) (i : Int)
theorem all_l0 (l : List ByteArray) (hl : l.length ≤ 9223372036854775806) : ∀ (n i : Nat), i + n = l.length → Ev (fun k => term_All.l0 k l (l.length : Int) (i : Int)) ((l.drop i).all mayS) := by
  intro n
  induction n with
  | zero =>
    intro i hi
    refine Ev.step (f := fun _ => some true) (fun k => ?_) ?_
    · simp only [term_All.l0]; rw [if_neg (by omega)]
    · rw [List.drop_eq_nil_of_le (by omega)]; exact Ev.now _
  | succ n ih =>
    intro i hi
    have hlt : i < l.length := by omega
    have hw : wrap64 ((i : Int) + 1) = ((i + 1 : Nat) : Int) := by rw [w64 (by omega) (by omega)]; omega
    refine Ev.step (f := fun k => (term_May.f k l[i]).bind fun t => if t = true then term_All.l0 k l (l.length : Int) ((i + 1 : Nat) : Int) else some false) (fun k => ?_) ?_
    · simp only [term_All.l0]
      rw [if_pos (by omega), if_pos (by omega), if_pos (by omega), hw]
      have : rdOf ByteArray.empty l (i : Int) = l[i] := by
        show l.getD _ _ = _
        rw [Int.toNat_natCast, List.getD_eq_getElem?_getD, List.getElem?_eq_getElem hlt]; rfl
      rw [this]
    · refine Ev.bind (may_ev _) ?_
      rw [List.drop_eq_getElem_cons hlt, List.all_cons]
      cases mayS l[i] with
      | true => simp only [if_pos, Bool.true_and]; exact ih (i + 1) (by omega)
      | false => simp only [Bool.false_and]; exact Ev.now _
theorem all_ev (l : List ByteArray) (hl : l.length ≤ 9223372036854775806) : Ev (fun k => term_All.f k l) (l.all mayS) := by
  have := all_l0 l hl l.length 0 (by omega)
  rw [List.drop_zero] at this
  exact this
theorem equation_ev (x : Nd) : Ev (fun k => trail_Equation.f k x.f0 x.f1 x.f2 x.f3) (eqS x) := by
  unfold trail_Equation.f eqS
  by_cases c1 : 0 ≤ x.f0
  · by_cases c2 : x.f0 < 8
    · by_cases c3 : (x.f2.length : Int) ≤ 3
      · simp only [if_pos c1, if_pos c2, if_pos c3, decide_eq_true c1, decide_eq_true c2, decide_eq_true (show x.f2.length ≤ 3 by omega), Bool.true_and]
        refine Ev.bind (all_ev _ (by omega)) ?_
        cases x.f2.all mayS with
        | true => simp only [if_pos, Bool.true_and]; exact may_ev _
        | false => simp only [Bool.false_and]; exact Ev.now _
      · simp only [if_pos c1, if_pos c2, if_neg c3, decide_eq_false (show ¬ x.f2.length ≤ 3 by omega), Bool.and_false, Bool.false_and]; exact Ev.now _
    · simp only [if_pos c1, if_neg c2, decide_eq_false c2, Bool.and_false, Bool.false_and]; exact Ev.now _
  · simp only [if_neg c1, decide_eq_false c1, Bool.false_and]; exact Ev.now _
theorem next_ev (x : Nd) (i : Int) : Ev (fun k => trail_Next.f k x.f0 x.f1 x.f2 x.f3 i) (nextS x i) := by
  unfold trail_Next.f nextS
  by_cases c1 : i < 512
  · by_cases c2 : (0 ≤ x.f1 ∧ x.f1 < i) ∨ (i = 0 ∧ x.f1 = -1)
    · simp only [if_pos c1, if_pos c2, decide_eq_true c1, Bool.true_and]
      have : (decide (0 ≤ x.f1 ∧ x.f1 < i) || decide (i = 0 ∧ x.f1 = -1)) = true := by
        rw [Bool.or_eq_true, decide_eq_true_iff, decide_eq_true_iff]; exact c2
      rw [this, Bool.true_and]
      exact equation_ev x
    · simp only [if_pos c1, if_neg c2, decide_eq_true c1, Bool.true_and]
      have : (decide (0 ≤ x.f1 ∧ x.f1 < i) || decide (i = 0 ∧ x.f1 = -1)) = false := by
        rw [← Bool.not_eq_true, Bool.or_eq_true, decide_eq_true_iff, decide_eq_true_iff]; exact c2
      rw [this, Bool.false_and]
      exact Ev.now _
  · simp only [if_neg c1, decide_eq_false c1, Bool.false_and]; exact Ev.now _
theorem nextS_512 {x : Nd} {i : Int} (h : nextS x i = true) : i < 512 := by
  unfold nextS at h
  rw [Bool.and_eq_true, Bool.and_eq_true, decide_eq_true_iff] at h
  exact h.1.1
theorem trailMay_l0 (ns : List Nd) : ∀ (n i : Nat), i + n = ns.length → Ev (fun k => trail_May.l0 k ns (i : Int)) (decide (0 < ns.length) && (List.range' i n).all fun j => nextS (rn ns (j : Int)) (j : Int)) := by
  intro n
  induction n with
  | zero =>
    intro i hi
    refine Ev.step (f := fun _ => some (decide (0 < ns.length))) (fun k => ?_) ?_
    · simp only [trail_May.l0]
      rw [if_neg (by omega)]
      congr 1
      exact decide_eq_decide.2 (by omega)
    · simp only [List.range'_zero, List.all_nil, Bool.and_true]; exact Ev.now _
  | succ n ih =>
    intro i hi
    refine Ev.step (f := fun k => (trail_Next.f k (rn ns (i : Int)).f0 (rn ns (i : Int)).f1 (rn ns (i : Int)).f2 (rn ns (i : Int)).f3 (i : Int)).bind fun t => if t = true then trail_May.l0 k ns (wrap64 ((i : Int) + 1)) else some false) (fun k => ?_) ?_
    · simp only [trail_May.l0]
      rw [if_pos (by omega), if_pos (by omega)]
    · refine Ev.bind (next_ev (rn ns (i : Int)) (i : Int)) ?_
      rw [List.range'_succ, List.all_cons]
      cases hn : nextS (rn ns (i : Int)) (i : Int) with
      | true =>
        have := nextS_512 hn
        simp only [if_pos, Bool.true_and]
        rw [show wrap64 ((i : Int) + 1) = ((i + 1 : Nat) : Int) from by rw [w64 (by omega) (by omega)]; omega]
        exact ih (i + 1) (by omega)
      | false => simp only [Bool.false_and, Bool.and_false]; exact Ev.now _
theorem trailMay_ev (ns : List Nd) : Ev (fun k => trail_May.f k ns) (mayT ns) := by
  have := trailMay_l0 ns ns.length 0 (by omega)
  unfold mayT
  rw [List.range_eq_range']
  exact this
theorem upTo_eq (a b c : Int) : sleuthref12_upTo.f a b c = some (decide (b ≤ a) && decide (a ≤ c)) := by
  unfold sleuthref12_upTo.f
  by_cases h : a ≥ b
  · rw [if_pos h, decide_eq_true h, Bool.true_and]
  · rw [if_neg h, decide_eq_false h, Bool.false_and]
theorem refTexts_l0 (x : Nd) (hl : x.f2.length ≤ 9223372036854775806) : ∀ (n i : Nat), i + n = x.f2.length → Ev (fun k => sleuthref12_texts.l0 k (i : Int) x.f0 x.f1 x.f2 x.f3) ((x.f2.drop i).all mayS && (decide (0 ≤ x.f0) && decide (x.f0 ≤ 7) && decide (x.f2.length ≤ 3) && mayS x.f3)) := by
  intro n
  induction n with
  | zero =>
    intro i hi
    refine Ev.step (f := fun k => ((sleuthref12_upTo.f x.f0 0 7).bind fun t255 => (if t255 = true then (if (x.f2.length : Int) ≤ 3 then ((sleuthref1_TermMay.f k x.f3).bind fun t256 => (some t256)) else (some false)) else (some false)))) (fun k => ?_) ?_
    · simp only [sleuthref12_texts.l0]; rw [if_neg (by omega)]
    · rw [List.drop_eq_nil_of_le (by omega), List.all_nil, Bool.true_and]
      simp only [upTo_eq, Option.bind_some]
      cases (decide (0 ≤ x.f0) && decide (x.f0 ≤ 7)) with
      | true =>
        simp only [if_pos, Bool.true_and]
        by_cases c : (x.f2.length : Int) ≤ 3
        · simp only [if_pos c, decide_eq_true (show x.f2.length ≤ 3 by omega), Bool.true_and]
          exact Ev.bind (refMay_ev _) (Ev.now _)
        · simp only [if_neg c, decide_eq_false (show ¬ x.f2.length ≤ 3 by omega), Bool.false_and]
          exact Ev.now _
      | false => simp only [Bool.false_and]; exact Ev.now _
  | succ n ih =>
    intro i hi
    have hlt : i < x.f2.length := by omega
    have hw : wrap64 ((i : Int) + 1) = ((i + 1 : Nat) : Int) := by rw [w64 (by omega) (by omega)]; omega
    refine Ev.step (f := fun k => (sleuthref1_TermMay.f k x.f2[i]).bind fun t => if t = true then sleuthref12_texts.l0 k ((i + 1 : Nat) : Int) x.f0 x.f1 x.f2 x.f3 else some false) (fun k => ?_) ?_
    · simp only [sleuthref12_texts.l0]
      rw [if_pos (by omega), if_pos (by omega), hw]
      have : rdOf ByteArray.empty x.f2 (i : Int) = x.f2[i] := by
        show x.f2.getD _ _ = _
        rw [Int.toNat_natCast, List.getD_eq_getElem?_getD, List.getElem?_eq_getElem hlt]; rfl
      rw [this]
    · refine Ev.bind (refMay_ev _) ?_
      rw [List.drop_eq_getElem_cons hlt, List.all_cons]
      cases mayS x.f2[i] with
      | true => simp only [if_pos, Bool.true_and]; exact ih (i + 1) (by omega)
      | false => simp only [Bool.false_and]; exact Ev.now _
theorem refTexts_ev (x : Nd) (hl : x.f2.length ≤ 9223372036854775806) : Ev (fun k => sleuthref12_texts.f k x.f0 x.f1 x.f2 x.f3) (eqS x) := by
  have := refTexts_l0 x hl x.f2.length 0 (by omega)
  rw [List.drop_zero] at this
  have e : (x.f2.all mayS && (decide (0 ≤ x.f0) && decide (x.f0 ≤ 7) && decide (x.f2.length ≤ 3) && mayS x.f3)) = eqS x := by
    unfold eqS
    rw [show decide (x.f0 ≤ 7) = decide (x.f0 < 8) from decide_eq_decide.2 (by omega)]
    cases x.f2.all mayS <;> cases decide (0 ≤ x.f0) <;> cases decide (x.f0 < 8) <;> cases decide (x.f2.length ≤ 3) <;> cases mayS x.f3 <;> rfl
  rw [e] at this
  exact this
theorem refStands_ev (x : Nd) (hl : x.f2.length ≤ 9223372036854775806) (i : Nat) : Ev (fun k => sleuthref12_stands.f k x.f0 x.f1 x.f2 x.f3 (i : Int)) (nextS x (i : Int)) := by
  unfold sleuthref12_stands.f nextS
  by_cases c1 : (i : Int) < 512
  · simp only [if_pos c1, decide_eq_true c1, Bool.true_and]
    refine Ev.bind (refTexts_ev x hl) ?_
    cases eqS x with
    | false => simp only [Bool.and_false]; exact Ev.now _
    | true =>
      simp only [if_pos, Bool.and_true]
      have hw : wrap64 ((i : Int) - 1) = (i : Int) - 1 := w64 (by omega) (by omega)
      by_cases c2 : (i : Int) = 0
      · simp only [if_pos c2]
        by_cases c3 : x.f1 = -1
        · simp only [if_pos c3]
          have : (decide (0 ≤ x.f1 ∧ x.f1 < (i : Int)) || decide ((i : Int) = 0 ∧ x.f1 = -1)) = true := by
            rw [Bool.or_eq_true, decide_eq_true_iff, decide_eq_true_iff]; exact .inr ⟨c2, c3⟩
          rw [this]
          exact Ev.now _
        · simp only [if_neg c3, if_neg (show ¬ ((i : Int) > 0) by omega)]
          have : (decide (0 ≤ x.f1 ∧ x.f1 < (i : Int)) || decide ((i : Int) = 0 ∧ x.f1 = -1)) = false := by
            rw [← Bool.not_eq_true, Bool.or_eq_true, decide_eq_true_iff, decide_eq_true_iff]; omega
          rw [this]
          exact Ev.now _
      · simp only [if_neg c2, if_pos (show (i : Int) > 0 by omega), upTo_eq, Option.bind_some, hw]
        have : (decide (0 ≤ x.f1 ∧ x.f1 < (i : Int)) || decide ((i : Int) = 0 ∧ x.f1 = -1)) = (decide (0 ≤ x.f1) && decide (x.f1 ≤ (i : Int) - 1)) := by
          rw [Bool.eq_iff_iff, Bool.or_eq_true, Bool.and_eq_true, decide_eq_true_iff, decide_eq_true_iff, decide_eq_true_iff, decide_eq_true_iff]; omega
        rw [this]
        exact Ev.now _
  · simp only [if_neg c1, decide_eq_false c1, Bool.false_and]; exact Ev.now _
theorem refTrail_l0 (ns : List Nd) (hok : okN ns) : ∀ (n i : Nat), i + n = ns.length → Ev (fun k => sleuthref12_TrailMay.l0 k ns (i : Int)) (decide (0 < ns.length) && (List.range' i n).all fun j => nextS (rn ns (j : Int)) (j : Int)) := by
  intro n
  induction n with
  | zero =>
    intro i hi
    refine Ev.step (f := fun _ => some (decide (0 < ns.length))) (fun k => ?_) ?_
    · simp only [sleuthref12_TrailMay.l0]
      rw [if_neg (by omega)]
      congr 1
      exact decide_eq_decide.2 (by omega)
    · simp only [List.range'_zero, List.all_nil, Bool.and_true]; exact Ev.now _
  | succ n ih =>
    intro i hi
    refine Ev.step (f := fun k => (sleuthref12_stands.f k (rn ns (i : Int)).f0 (rn ns (i : Int)).f1 (rn ns (i : Int)).f2 (rn ns (i : Int)).f3 (i : Int)).bind fun t => if t = true then sleuthref12_TrailMay.l0 k ns (wrap64 ((i : Int) + 1)) else some false) (fun k => ?_) ?_
    · simp only [sleuthref12_TrailMay.l0]
      rw [if_pos (by omega), if_pos (by omega)]
    · refine Ev.bind (refStands_ev (rn ns (i : Int)) (Nat.le_trans (hok.at _) (by omega)) i) ?_
      rw [List.range'_succ, List.all_cons]
      cases hn : nextS (rn ns (i : Int)) (i : Int) with
      | true =>
        have := nextS_512 hn
        simp only [if_pos, Bool.true_and]
        rw [show wrap64 ((i : Int) + 1) = ((i + 1 : Nat) : Int) from by rw [w64 (by omega) (by omega)]; omega]
        exact ih (i + 1) (by omega)
      | false => simp only [Bool.false_and, Bool.and_false]; exact Ev.now _
theorem refTrail_ev (ns : List Nd) (hok : okN ns) : Ev (fun k => sleuthref12_TrailMay.f k ns) (mayT ns) := by
  have := refTrail_l0 ns hok ns.length 0 (by omega)
  unfold mayT
  rw [List.range_eq_range']
  exact this
theorem mayT_at {ns : List Nd} (h : mayT ns = true) : 0 < ns.length ∧ ∀ i : Nat, i < ns.length → nextS (rn ns (i : Int)) (i : Int) = true := by
  unfold mayT at h
  rw [Bool.and_eq_true, decide_eq_true_iff] at h
  exact ⟨h.1, fun i hi => List.all_eq_true.1 h.2 i (List.mem_range.2 hi)⟩
theorem mayT_len {ns : List Nd} (h : mayT ns = true) : 0 < ns.length ∧ ns.length ≤ 512 := by
  obtain ⟨h1, h2⟩ := mayT_at h
  have := nextS_512 (h2 (ns.length - 1) (by omega))
  exact ⟨h1, by omega⟩
def pa (ns : List Nd) (i : Nat) : Int := (rn ns (i : Int)).f1
theorem mayT_pa {ns : List Nd} (h : mayT ns = true) (i : Nat) (hi : i < ns.length) : (i = 0 ∧ pa ns i = -1) ∨ (0 < i ∧ 0 ≤ pa ns i ∧ pa ns i < (i : Int)) := by
  have := (mayT_at h).2 i hi
  unfold nextS at this
  rw [Bool.and_eq_true, Bool.and_eq_true, Bool.or_eq_true, decide_eq_true_iff, decide_eq_true_iff, decide_eq_true_iff] at this
  unfold pa
  rcases this.1.2 with h1 | h1 <;> omega
def fineN (l : List Nd) : Prop := l.length * 56 ≤ 140737488351232 ∧ ∀ x ∈ l, (Lit.int .i64 x.f0).wf = true ∧ (Lit.int .i64 x.f1).wf = true ∧ (x.f2.length * 16 ≤ 140737488351232 ∧ ∀ s ∈ x.f2, s.size ≤ 140737488351232) ∧ x.f3.size ≤ 140737488351232
theorem fineN.ok {l : List Nd} (h : fineN l) : okN l := ⟨by have := h.1; omega, fun x hx => by have := (h.2 x hx).2.2.1.1; omega⟩
theorem sameInts_l0 (a : List Int) (ha : a.length ≤ 9223372036854775806) : ∀ (n i : Nat), i + n = a.length → Ev (fun k => sleuthlaw0_SameInts.l0 k a a (i : Int)) true := by
  intro n
  induction n with
  | zero =>
    intro i hi
    refine Ev.step (f := fun _ => some true) (fun k => ?_) (Ev.now _)
    rw [sleuthlaw0_SameInts.l0, if_neg (by omega)]
  | succ n ih =>
    intro i hi
    have hw : wrap64 ((i : Int) + 1) = ((i + 1 : Nat) : Int) := by rw [w64 (by omega) (by omega)]; omega
    refine Ev.step (f := fun k => sleuthlaw0_SameInts.l0 k a a ((i + 1 : Nat) : Int)) (fun k => ?_) (ih (i + 1) (by omega))
    rw [sleuthlaw0_SameInts.l0, if_pos (by omega), if_pos (by omega), if_pos (by omega), if_pos rfl, hw]
theorem sameInts_ev (a : List Int) (ha : a.length ≤ 9223372036854775806) : Ev (fun k => sleuthlaw0_SameInts.f k a a) true := by
  unfold sleuthlaw0_SameInts.f
  simp only [if_pos]
  exact sameInts_l0 a ha a.length 0 (by omega)
end Go.Proofs.YtjodjfbhaojhjaaDoor.G
end
section
namespace Go.Proofs.YtjodjfbhaojhjaaDoor.G
open Go.RowKit
set_option linter.unusedVariables false
set_option linter.unusedSimpArgs false
def Par (ps : List Int) : Prop := ∀ i, i < ps.length → (i = 0 ∧ ps.getD i (-1) = -1) ∨ (0 < i ∧ 0 ≤ ps.getD i (-1) ∧ ps.getD i (-1) < i)
def upB (ps : List Int) (p : Nat) : Nat → Nat → Bool
  | 0, _ => false
  | n + 1, j => j == p || (decide (0 ≤ ps.getD j (-1)) && upB ps p n (ps.getD j (-1)).toNat)
/-- does j stand below p (or is it p)? -/
def dsc (ps : List Int) (p j : Nat) : Bool := upB ps p (j + 1) j
theorem upB_fuel {ps : List Int} (hp : Par ps) (p : Nat) : ∀ n j m, j < ps.length → j < n → j < m → upB ps p n j = upB ps p m j := by
  intro n
  induction n with
  | zero => intro j m _ h; omega
  | succ n ih =>
    intro j m hj hn hm
    cases m with
    | zero => omega
    | succ m =>
      rw [upB, upB]
      by_cases c : 0 ≤ ps.getD j (-1)
      · have := hp j hj
        rw [ih (ps.getD j (-1)).toNat m (by omega) (by omega) (by omega)]
      · rw [decide_eq_false c, Bool.false_and, Bool.false_and]
theorem dsc_step {ps : List Int} (hp : Par ps) (p : Nat) {j : Nat} (hj : j < ps.length) (h0 : 0 < j) : dsc ps p j = (j == p || dsc ps p (ps.getD j (-1)).toNat) := by
  have := hp j hj
  unfold dsc
  rw [upB, decide_eq_true (show 0 ≤ ps.getD j (-1) by omega), Bool.true_and, upB_fuel hp p j _ ((ps.getD j (-1)).toNat + 1) (by omega) (by omega) (by omega)]
theorem dsc_zero {ps : List Int} (hp : Par ps) (p : Nat) (h : 0 < ps.length) : dsc ps p 0 = (0 == p) := by
  have := hp 0 h
  unfold dsc
  rw [upB, decide_eq_false (show ¬ 0 ≤ ps.getD 0 (-1) by omega), Bool.false_and, Bool.or_false]
theorem dsc_self {ps : List Int} (p : Nat) : dsc ps p p = true := by unfold dsc; rw [upB, beq_self_eq_true]; rfl
theorem dsc_le {ps : List Int} (hp : Par ps) {p : Nat} : ∀ (n j : Nat), j < n → j < ps.length → dsc ps p j = true → p ≤ j := by
  intro n
  induction n with
  | zero => intro j h; omega
  | succ n ih =>
    intro j hn hj h
    rcases Nat.eq_zero_or_pos j with rfl | h0
    · rw [dsc_zero hp p hj] at h
      have : 0 = p := beq_iff_eq.1 h
      omega
    · rw [dsc_step hp p hj h0, Bool.or_eq_true, beq_iff_eq] at h
      have h1 := hp j hj
      rcases h with rfl | h
      · exact Nat.le_refl _
      · have := ih _ (by omega) (by omega) h
        omega
theorem dsc_last {ps : List Int} (hp : Par ps) {p j : Nat} (hj : j < ps.length) (h : j < p) : dsc ps p j = false := by
  cases c : dsc ps p j with
  | false => rfl
  | true => have := dsc_le hp (j + 1) j (by omega) hj c; omega
def sumTo (f : Nat → Int) : Nat → Int
  | 0 => 0
  | n + 1 => sumTo f n + f n
theorem sumTo_congr {f g : Nat → Int} : ∀ {n : Nat}, (∀ j, j < n → f j = g j) → sumTo f n = sumTo g n
  | 0, _ => rfl
  | n + 1, h => by rw [sumTo, sumTo, sumTo_congr (fun j hj => h j (by omega)), h n (by omega)]
theorem sumTo_le {f g : Nat → Int} : ∀ {n : Nat}, (∀ j, j < n → f j ≤ g j) → sumTo f n ≤ sumTo g n
  | 0, _ => Int.le_refl _
  | n + 1, h => by
    have := sumTo_le (f := f) (g := g) (n := n) (fun j hj => h j (by omega))
    have := h n (by omega)
    rw [sumTo, sumTo]; omega
theorem sumTo_nonneg {f : Nat → Int} : ∀ {n : Nat}, (∀ j, j < n → 0 ≤ f j) → 0 ≤ sumTo f n
  | 0, _ => Int.le_refl _
  | n + 1, h => by
    have := sumTo_nonneg (f := f) (n := n) (fun j hj => h j (by omega))
    have := h n (by omega)
    rw [sumTo]; omega
theorem sumTo_zero {f : Nat → Int} : ∀ {n : Nat}, (∀ j, j < n → f j = 0) → sumTo f n = 0
  | 0, _ => rfl
  | n + 1, h => by rw [sumTo, sumTo_zero (fun j hj => h j (by omega)), h n (by omega)]; rfl
theorem sumTo_mem {f : Nat → Int} {i : Nat} : ∀ {n : Nat}, (∀ j, j < n → 0 ≤ f j) → i < n → f i ≤ sumTo f n
  | 0, _, h => by omega
  | n + 1, h, hi => by
    rw [sumTo]
    have h1 := sumTo_nonneg (f := f) (n := n) (fun j hj => h j (by omega))
    have h2 := h n (by omega)
    rcases Nat.lt_or_ge i n with c | c
    · have := sumTo_mem (f := f) (i := i) (n := n) (fun j hj => h j (by omega)) c
      omega
    · have : i = n := by omega
      rw [this]; omega
/-- a sum over a row of which one entry has grown -/
theorem sumTo_one {f g : Nat → Int} {i : Nat} {v : Int} : ∀ {n : Nat}, i < n → (∀ j, j < n → f j = if j = i then g j + v else g j) → sumTo f n = sumTo g n + v
  | 0, h, _ => by omega
  | n + 1, h, hf => by
    rw [sumTo, sumTo]
    have hn := hf n (by omega)
    rcases Nat.lt_or_ge i n with c | c
    · rw [sumTo_one (n := n) c (fun j hj => hf j (by omega)), hn, if_neg (by omega)]; omega
    · have : i = n := by omega
      rw [hn, if_pos this.symm, sumTo_congr (n := n) (f := f) (g := g) (fun j hj => by rw [hf j (by omega), if_neg (by omega)])]; omega
/-- what the program does, from the last node on -/
def szL (ps : List Int) (c : Nat → Int) : Nat → List Int → List Int
  | 0, o => o
  | n + 1, o =>
    let o1 := o.set n (wrap64 (o.getD n 0 + c n))
    szL ps c n (if 0 < n then o1.set (ps.getD n (-1)).toNat (wrap64 (o1.getD (ps.getD n (-1)).toNat 0 + o1.getD n 0)) else o1)
theorem getD_set {l : List Int} {i j : Nat} {v : Int} (h : i < l.length) : (l.set i v).getD j 0 = if j = i then v else l.getD j 0 := by
  rw [List.getD_eq_getElem?_getD, List.getD_eq_getElem?_getD, List.getElem?_set]
  by_cases c : i = j
  · subst c; rw [if_pos rfl, if_pos h, if_pos rfl]; rfl
  · rw [if_neg c, if_neg (fun h => c h.symm)]
theorem szL_eq {ps : List Int} (hp : Par ps) (c : Nat → Int) (hc : ∀ j, 0 ≤ c j) : ∀ (n : Nat) (o : List Int), n ≤ ps.length → o.length = ps.length → (∀ j, j < n → 0 ≤ o.getD j 0) → sumTo (fun j => o.getD j 0 + c j) n ≤ 9223372036854775807 →
    ∀ p, (szL ps c n o).getD p 0 = if p < n then sumTo (fun j => if dsc ps p j = true then o.getD j 0 + c j else 0) n else o.getD p 0 := by
  intro n
  induction n with
  | zero => intro o _ _ _ _ p; rw [if_neg (by omega)]; rfl
  | succ n ih =>
    intro o hn ho h0 hs p
    rw [szL]
    rw [sumTo] at hs
    have hsum0 := sumTo_nonneg (f := fun j => o.getD j 0 + c j) (n := n) (fun j hj => by have := h0 j (by omega); have := hc j; omega)
    have hn0 := h0 n (by omega)
    have hcn := hc n
    have hv : wrap64 (o.getD n 0 + c n) = o.getD n 0 + c n := by unfold wrap64; omega
    rw [hv]
    have g1 : ∀ j, (o.set n (o.getD n 0 + c n)).getD j 0 = if j = n then o.getD n 0 + c n else o.getD j 0 := fun j => getD_set (by omega)
    by_cases c0 : 0 < n
    · rw [if_pos c0]
      have hpn := hp n (by omega)
      obtain ⟨q, hq⟩ : ∃ q : Nat, (ps.getD n (-1)).toNat = q := ⟨_, rfl⟩
      have hqn : q < n := by omega
      rw [hq]
      have g2 : (o.set n (o.getD n 0 + c n)).getD q 0 + (o.set n (o.getD n 0 + c n)).getD n 0 = o.getD q 0 + (o.getD n 0 + c n) := by
        rw [g1, g1, if_neg (by omega), if_pos rfl]
      rw [g2]
      have hq1 := sumTo_mem (f := fun j => o.getD j 0 + c j) (i := q) (n := n) (fun j hj => by have := h0 j (by omega); have := hc j; omega) hqn
      have hq0 := h0 q (by omega)
      have hcq := hc q
      have hw : wrap64 (o.getD q 0 + (o.getD n 0 + c n)) = o.getD q 0 + (o.getD n 0 + c n) := by unfold wrap64; omega
      rw [hw]
      have g3 : ∀ j, ((o.set n (o.getD n 0 + c n)).set q (o.getD q 0 + (o.getD n 0 + c n))).getD j 0 = if j = q then o.getD j 0 + (o.getD n 0 + c n) else if j = n then o.getD n 0 + c n else o.getD j 0 := by
        intro j
        rw [getD_set (by rw [List.length_set]; omega), g1]
        by_cases c1 : j = q
        · rw [if_pos c1, if_pos c1, c1]
        · rw [if_neg c1, if_neg c1]
      have hs' : sumTo (fun j => ((o.set n (o.getD n 0 + c n)).set q (o.getD q 0 + (o.getD n 0 + c n))).getD j 0 + c j) n = sumTo (fun j => o.getD j 0 + c j) n + (o.getD n 0 + c n) :=
        sumTo_one hqn (fun j hj => by
          rw [g3]
          by_cases c1 : j = q
          · rw [if_pos c1, if_pos c1]; omega
          · rw [if_neg c1, if_neg c1, if_neg (by omega)])
      rw [ih _ (by omega) (by simp [ho]) (fun j hj => by
        rw [g3]
        have := h0 j (by omega)
        by_cases c1 : j = q
        · rw [if_pos c1]; omega
        · rw [if_neg c1, if_neg (by omega)]; exact this) (by rw [hs']; omega)]
      by_cases cp : p < n
      · rw [if_pos cp, if_pos (by omega), sumTo]
        have hd : dsc ps p n = dsc ps p q := by
          rw [dsc_step hp p (by omega) c0, hq, show (n == p) = false by rw [beq_eq_false_iff_ne]; omega, Bool.false_or]
        rw [hd]
        by_cases c2 : dsc ps p q = true
        · rw [if_pos c2]
          exact sumTo_one hqn (fun j hj => by
            rw [g3]
            by_cases c1 : j = q
            · rw [if_pos c1, if_pos c1, c1, if_pos c2, if_pos c2]; omega
            · rw [if_neg c1, if_neg c1, if_neg (show ¬ j = n by omega)])
        · rw [if_neg c2, Int.add_zero]
          exact sumTo_congr (fun j hj => by
            rw [g3]
            by_cases c1 : j = q
            · rw [c1, if_neg c2, if_neg c2]
            · rw [if_neg c1, if_neg (show ¬ j = n by omega)])
      · rw [if_neg cp, g3, if_neg (by omega)]
        by_cases c1 : p = n
        · rw [if_pos c1, if_pos (by omega), sumTo, c1, if_pos (dsc_self n), sumTo_zero, Int.zero_add]
          intro j hj
          rw [dsc_last hp (by omega) hj, if_neg (by decide)]
        · rw [if_neg c1, if_neg (by omega)]
    · rw [if_neg c0]
      obtain rfl : n = 0 := by omega
      show (o.set 0 (o.getD 0 0 + c 0)).getD p 0 = _
      rw [g1]
      by_cases c1 : p = 0
      · rw [if_pos c1, if_pos (by omega), c1, sumTo, sumTo, if_pos (dsc_self 0), Int.zero_add]
      · rw [if_neg c1, if_neg (by omega)]
end Go.Proofs.YtjodjfbhaojhjaaDoor.G
end
section
namespace Go.Proofs.YtjodjfbhaojhjaaDoor.G
open Go.RowKit Go.Proofs.YtjodjfbhaojhjaaDoorW.PrintWords Go.Proofs.YtjodjfbhaojhjaaDoorW.PrintLast Go.Proofs.YtjodjfbhaojhjaaDoorW.PrintMore
set_option linter.unusedVariables false
set_option linter.unusedSimpArgs false
def ps (ns : List Nd) : List Int := ns.map (·.f1)
theorem ps_len (ns : List Nd) : (ps ns).length = ns.length := List.length_map ..
theorem ps_at (ns : List Nd) (i : Nat) (h : i < ns.length) : (ps ns).getD i (-1) = pa ns i := by
  unfold ps pa
  rw [rn_eq ns i h, List.getD_eq_getElem?_getD, List.getElem?_map, List.getElem?_eq_getElem h]; rfl
theorem par_of {ns : List Nd} (h : mayT ns = true) : Par (ps ns) := fun i hi => by
  rw [ps_len] at hi
  rw [ps_at ns i hi]
  have := mayT_pa h i hi
  omega
def inT (ns : List Nd) (a : Int) : Bool := mayT ns && (decide (0 ≤ a) && decide (a < (ns.length : Int)))
theorem inT_spec {ns : List Nd} {a : Int} (h : inT ns a = true) : mayT ns = true ∧ 0 ≤ a ∧ a < (ns.length : Int) := by
  unfold inT at h
  rw [Bool.and_eq_true, Bool.and_eq_true, decide_eq_true_iff, decide_eq_true_iff] at h
  exact h
theorem inT_of {ns : List Nd} {a : Int} (h : mayT ns = true) (h0 : 0 ≤ a) (h1 : a < (ns.length : Int)) : inT ns a = true := by
  unfold inT
  rw [h, decide_eq_true h0, decide_eq_true h1]; rfl
theorem there_ev (ns : List Nd) (a : Int) : Ev (fun k => tree_there.f k ns a) (inT ns a) := by
  unfold tree_there.f inT
  refine Ev.bind (trailMay_ev ns) ?_
  cases mayT ns with
  | false => simp only [Bool.false_and]; exact Ev.now _
  | true =>
    simp only [if_pos, Bool.true_and]
    by_cases c : a ≥ 0
    · simp only [if_pos c, decide_eq_true c, Bool.true_and]; exact Ev.now _
    · simp only [if_neg c, decide_eq_false c, Bool.false_and]; exact Ev.now _
def kidsS (ns : List Nd) (a : Int) : List Int × Int := if inT ns a = true then (kidsTo ns a ns.length, 0) else ([], 1300)
theorem kids_ev (ns : List Nd) (a : Int) : Ev (fun k => tree_Kids.f k ns a) (kidsS ns a) := by
  unfold tree_Kids.f kidsS
  refine Ev.bind (there_ev ns a) ?_
  by_cases c : inT ns a = true
  · simp only [if_pos c]; exact Ev.now _
  · simp only [if_neg c]; exact Ev.now _
theorem sizesL_szL (ns : List Nd) (hp : Par (ps ns)) (c : Int → Int) : ∀ (n : Nat) (o : List Int), n ≤ ns.length → sizesL ns c n o = szL (ps ns) (fun j => c (j : Int)) n o
  | 0, o, _ => rfl
  | n + 1, o, h => by
    have hr : ∀ (l : List Int) (j : Nat), rd l (j : Int) = l.getD j 0 := fun l j => by show l.getD _ _ = _; rw [Int.toNat_natCast]
    rw [sizesL, szL]
    have hpa : (rn ns (n : Int)).f1 = (ps ns).getD n (-1) := (ps_at ns n (by omega)).symm
    simp only [hr]
    by_cases c0 : 0 < n
    · have hp1 := hp n (by rw [ps_len]; omega)
      have hz : (((ps ns).getD n (-1)).toNat : Int) = (ps ns).getD n (-1) := by omega
      rw [if_pos c0, if_pos c0, hpa]
      have hrp : ∀ l : List Int, rd l ((ps ns).getD n (-1)) = l.getD ((ps ns).getD n (-1)).toNat 0 := fun l => rfl
      rw [hrp]
      exact sizesL_szL ns hp c n _ (by omega)
    · rw [if_neg c0, if_neg c0]
      exact sizesL_szL ns hp c n _ (by omega)
def indD (ns : List Nd) (p : Nat) (j : Nat) : Int := if dsc (ps ns) p j = true then 1 else 0
def cntD (ns : List Nd) (p : Nat) : Int := sumTo (indD ns p) ns.length
theorem indD_range (ns : List Nd) (p j : Nat) : 0 ≤ indD ns p j ∧ indD ns p j ≤ 1 := by
  unfold indD
  split <;> omega
theorem sumTo_const : ∀ (n : Nat), sumTo (fun _ => (1 : Int)) n = n
  | 0 => rfl
  | n + 1 => by rw [sumTo, sumTo_const n]; omega
theorem cntD_range (ns : List Nd) (p : Nat) : 0 ≤ cntD ns p ∧ cntD ns p ≤ ns.length := by
  refine ⟨sumTo_nonneg (fun j _ => (indD_range ns p j).1), ?_⟩
  have := sumTo_le (f := indD ns p) (g := fun _ => 1) (n := ns.length) (fun j _ => (indD_range ns p j).2)
  rw [sumTo_const] at this
  exact this
theorem rep_zero (m j : Nat) : (List.replicate m (0 : Int)).getD j 0 = 0 := by
  rw [List.getD_eq_getElem?_getD, List.getElem?_replicate]
  split <;> rfl
theorem sizesP_gen {ns : List Nd} (h : mayT ns = true) (c : Int → Int) (hc : ∀ j : Nat, 0 ≤ c (j : Int)) (hs : sumTo (fun j => c (j : Int)) ns.length ≤ 9223372036854775807) (p : Nat) (hp : p < ns.length) : rd (sizesP ns c) (p : Int) = sumTo (fun j => if dsc (ps ns) p j = true then c (j : Int) else 0) ns.length := by
  have hpar := par_of h
  show (sizesP ns c).getD (p : Int).toNat 0 = _
  rw [Int.toNat_natCast]
  unfold sizesP
  rw [sizesL_szL ns hpar c _ _ (Nat.le_refl _)]
  have hz : ∀ j, (List.replicate ns.length (0 : Int)).getD j 0 + c (j : Int) = c (j : Int) := fun j => by rw [rep_zero]; omega
  have := szL_eq hpar (fun j => c (j : Int)) hc ns.length (List.replicate ns.length 0) (by rw [ps_len]; exact Nat.le_refl _) (by rw [ps_len, List.length_replicate]) (fun j _ => by rw [rep_zero]; exact Int.le_refl _)
    (by simp only [hz]; exact hs) p
  rw [this, if_pos hp]
  exact sumTo_congr (fun j _ => by rw [hz])
theorem sizesP_at {ns : List Nd} (h : mayT ns = true) (p : Nat) (hp : p < ns.length) : rd (sizesP ns (fun _ => 1)) (p : Int) = cntD ns p := by
  have hlen := mayT_len h
  exact sizesP_gen h (fun _ => 1) (fun _ => by omega) (by rw [sumTo_const]; omega) p hp
def sizeS (ns : List Nd) (a : Int) : Int × Int := if inT ns a = true then (cntD ns a.toNat, 0) else (0, 1300)
theorem size_ev (ns : List Nd) (a : Int) : Ev (fun k => tree_Size.f k ns a) (sizeS ns a) := by
  unfold tree_Size.f sizeS
  refine Ev.bind (there_ev ns a) ?_
  by_cases c : inT ns a = true
  · simp only [if_pos c]
    obtain ⟨h1, h2, h3⟩ := inT_spec c
    have := sizesP_at h1 a.toNat (by omega)
    rw [show ((a.toNat : Nat) : Int) = a by omega] at this
    rw [this]
    exact Ev.now _
  · simp only [if_neg c]; exact Ev.now _
/-- the document's marks: which nodes count -/
def marksD (ns : List Nd) (p : Nat) (i : Nat) : List Bool := (List.range ns.length).map fun j => decide (j < i) && dsc (ps ns) p j
theorem marksD_len (ns : List Nd) (p i : Nat) : (marksD ns p i).length = ns.length := by simp [marksD]
theorem marksD_at (ns : List Nd) (p i j : Nat) (h : j < ns.length) : rdOf false (marksD ns p i) (j : Int) = (decide (j < i) && dsc (ps ns) p j) := by
  show (marksD ns p i).getD (j : Int).toNat false = _
  rw [Int.toNat_natCast]
  unfold marksD
  rw [List.getD_eq_getElem?_getD, List.getElem?_map, List.getElem?_range h]; rfl
theorem marksD_set (ns : List Nd) (p i : Nat) (h : i < ns.length) : (marksD ns p i).set i (dsc (ps ns) p i) = marksD ns p (i + 1) := by
  apply List.ext_getElem
  · simp [marksD]
  · intro j h1 h2
    have hj : j < ns.length := by rw [marksD_len] at h2; exact h2
    rw [List.getElem_set]
    by_cases c : i = j
    · subst c
      rw [if_pos rfl]
      simp [marksD]
    · rw [if_neg c]
      simp only [marksD, List.getElem_map, List.getElem_range]
      congr 1
      exact decide_eq_decide.2 (by omega)
theorem and_range (x : Int) (m : Nat) (hm : m < 9223372036854775808) : 0 ≤ Go.bits .and .i64 x (m : Int) ∧ Go.bits .and .i64 x (m : Int) ≤ m := by
  have h : (BitVec.ofInt IntKind.i64.bits x &&& BitVec.ofInt IntKind.i64.bits (m : Int)).toNat ≤ m := by
    rw [BitVec.toNat_and, BitVec.ofInt_natCast, BitVec.toNat_ofNat]
    exact Nat.le_trans Nat.and_le_right (Nat.mod_le _ _)
  unfold Go.bits
  simp only [IntKind.wrap_i64]
  omega
def one (p : Int) : Nd := ⟨0, p, [], (⟨#[49]⟩ : ByteArray)⟩
theorem eqS_one (p : Int) : eqS (one p) = true := by
  have h : mayS (⟨#[49]⟩ : ByteArray) = true := by kernel_rfl
  unfold eqS one
  simp only [h]
  rfl
theorem rn_map (k : Nat) (f : Nat → Nd) (j : Nat) (h : j < k) : rn ((List.range k).map f) (j : Int) = f j := by
  rw [rn_eq _ j (by simpa using h)]
  simp
theorem may_map (k : Nat) (h0 : 0 < k) (h1 : k ≤ 512) (f : Nat → Int) (hf : ∀ j, j < k → (0 ≤ f j ∧ f j < (j : Int)) ∨ (j = 0 ∧ f j = -1)) : mayT ((List.range k).map fun j => one (f j)) = true := by
  unfold mayT
  rw [Bool.and_eq_true, decide_eq_true_iff, List.length_map, List.length_range]
  refine ⟨h0, List.all_eq_true.2 fun i hi => ?_⟩
  have hi := List.mem_range.1 hi
  rw [rn_map k _ i hi]
  unfold nextS
  rw [eqS_one, Bool.and_true, Bool.and_eq_true, Bool.or_eq_true, decide_eq_true_iff, decide_eq_true_iff, decide_eq_true_iff]
  refine ⟨by omega, ?_⟩
  show (0 ≤ f i ∧ f i < (i : Int)) ∨ ((i : Int) = 0 ∧ f i = -1)
  have := hf i hi
  omega
def rowI (k i : Nat) (f : Nat → Nd) : List Nd := (List.range k).map fun j => if j < i then f j else z35
theorem rowI_set (k i : Nat) (f : Nat → Nd) (h : i < k) : (rowI k i f).set i (f i) = rowI k (i + 1) f := by
  apply List.ext_getElem
  · simp [rowI]
  · intro j h1 h2
    rw [List.getElem_set]
    simp only [rowI, List.getElem_map, List.getElem_range]
    by_cases c : i = j
    · subst c; rw [if_pos rfl, if_pos (by omega)]
    · rw [if_neg c]
      by_cases d : j < i
      · rw [if_pos d, if_pos (by omega)]
      · rw [if_neg d, if_neg (by omega)]
theorem rowI_zero (k : Nat) (f : Nat → Nd) : rowI k 0 f = List.replicate k z35 := by
  apply List.ext_getElem
  · simp [rowI]
  · intro j h1 h2
    simp [rowI]
theorem rowI_full (k : Nat) (f : Nat → Nd) : rowI k k f = (List.range k).map f := by
  unfold rowI
  apply List.map_congr_left
  intro j hj
  rw [if_pos (List.mem_range.1 hj)]
theorem umod (a : Int) (k : Nat) (h0 : 0 < k) (h1 : k ≤ 512) : IntKind.u64.wrap (k : Int) = (k : Int) ∧ ∃ m : Nat, m < k ∧ wrap64 (Int.tmod (IntKind.u64.wrap a) (k : Int)) = (m : Int) := by
  have e1 : IntKind.u64.wrap (k : Int) = (k : Int) := by
    show (k : Int) % 18446744073709551616 = _
    omega
  refine ⟨e1, ?_⟩
  have h2 : 0 ≤ IntKind.u64.wrap a ∧ IntKind.u64.wrap a < 18446744073709551616 := by
    show 0 ≤ a % 18446744073709551616 ∧ a % 18446744073709551616 < 18446744073709551616
    omega
  generalize IntKind.u64.wrap a = y at h2
  refine ⟨(y % (k : Int)).toNat, ?_, ?_⟩
  · have := Int.emod_lt_of_pos y (show (0 : Int) < k by omega)
    have := Int.emod_nonneg y (show (k : Int) ≠ 0 by omega)
    omega
  · have := Int.emod_lt_of_pos y (show (0 : Int) < k by omega)
    have := Int.emod_nonneg y (show (k : Int) ≠ 0 by omega)
    rw [Int.tmod_eq_emod_of_nonneg h2.1, w64 (by omega) (by omega)]
    omega
def someT : List Nd := [(⟨0, (-1), ([] : List ByteArray), (⟨#[57]⟩ : ByteArray)⟩ : Nd), (⟨1, 0, (([(⟨#[64, 55, 40, 95, 32, 52, 41]⟩ : ByteArray), (⟨#[53]⟩ : ByteArray)] : List ByteArray)), (⟨#[57]⟩ : ByteArray)⟩ : Nd), (⟨2, 0, ([] : List ByteArray), (⟨#[33]⟩ : ByteArray)⟩ : Nd), (⟨1, 1, (([(⟨#[49]⟩ : ByteArray), (⟨#[95]⟩ : ByteArray)] : List ByteArray)), (⟨#[95]⟩ : ByteArray)⟩ : Nd), (⟨1, 2, (([(⟨#[49]⟩ : ByteArray), (⟨#[95]⟩ : ByteArray)] : List ByteArray)), (⟨#[95]⟩ : ByteArray)⟩ : Nd)]
theorem some_eq : sleuthlaw13_some.f = some someT := rfl
theorem kidsS_len (ns : List Nd) (a : Int) (hok : okN ns) : (kidsS ns a).1.length ≤ 9223372036854775806 := by
  unfold kidsS
  have := kidsTo_len ns a ns.length
  have := hok.1
  split <;> simp <;> omega
theorem awake_ev : Ev (fun k => sleuthlaw13_awake.f k) true := by
  unfold sleuthlaw13_awake.f
  simp only [some_eq, Option.bind_some]
  refine Ev.bind (kids_ev someT 0) (Ev.bind (size_ev someT 1) (Ev.bind (size_ev someT 0) (Ev.bind (kids_ev someT 5) (Ev.bind (size_ev [] 0) ?_))))
  have e1 : kidsS someT 0 = ([1, 2], 0) := by kernel_rfl
  have e2 : sizeS someT 1 = (2, 0) := by kernel_rfl
  have e3 : sizeS someT 0 = (5, 0) := by kernel_rfl
  have e4 : kidsS someT 5 = ([], 1300) := by kernel_rfl
  have e5 : sizeS [] 0 = (0, 1300) := by kernel_rfl
  rw [e1, e2, e3, e4, e5]
  refine Ev.bind (sameInts_ev [1, 2] (by simp)) ?_
  simp only [sleuthlaw0_Num.f, Option.bind_some, if_pos]
  exact Ev.now _
end Go.Proofs.YtjodjfbhaojhjaaDoor.G
end
