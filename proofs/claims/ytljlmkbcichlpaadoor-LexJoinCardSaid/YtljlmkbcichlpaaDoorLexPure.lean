/- The words of a source: what the program's own road of strings and the document's say, as one walk over the bytes. -/
import Derived.Test.YtljlmkbcichlpaaDoorTBase
import Derived.Test.YtljlmkbcichlpaaDoorG3
import Derived.Test.YtljlmkbcichlpaaDoorG4
import Derived.Test.YtljlmkbcichlpaaDoorG5
namespace Go.Proofs.YtljlmkbcichlpaaDoor.G
open Go.RowKit Go.Proofs.YtljlmkbcichlpaaDoorW.PrintWords Go.Proofs.YtljlmkbcichlpaaDoorW.PrintLast Go.Proofs.YtljlmkbcichlpaaDoorW.PrintMore
set_option linter.unusedVariables false
set_option linter.unusedSimpArgs false

def flushL (w : List UInt8) : List (List UInt8) := if w.isEmpty = true then [] else [w]
/-- the words: w: the one that is being read; m: within a remark -/
def lexGo : List UInt8 → Bool → List UInt8 → List (List UInt8)
  | w, _, [] => flushL w
  | w, true, b :: l => if b = 10 then lexGo w false l else lexGo w true l
  | w, false, b :: l => if b = 10 ∨ b = 32 then flushL w ++ lexGo [] false l else if hitB b = true then flushL w ++ ([b] :: lexGo [] false l) else if b = 35 then flushL w ++ lexGo [] true l else lexGo (w ++ [b]) false l
theorem lexGo_nil (w : List UInt8) (m : Bool) : lexGo w m [] = flushL w := by cases m <;> rw [lexGo]
theorem lexGo_t (w : List UInt8) (b : UInt8) (l : List UInt8) : lexGo w true (b :: l) = if b = 10 then lexGo w false l else lexGo w true l := by rw [lexGo]
theorem lexGo_f (w : List UInt8) (b : UInt8) (l : List UInt8) : lexGo w false (b :: l) = if b = 10 ∨ b = 32 then flushL w ++ lexGo [] false l else if hitB b = true then flushL w ++ ([b] :: lexGo [] false l) else if b = 35 then flushL w ++ lexGo [] true l else lexGo (w ++ [b]) false l := by rw [lexGo]
def cutL (l : List UInt8) : List UInt8 := l.takeWhile (fun b => b != 35)

theorem fieldsGo_flush (cur l : List UInt8) (b : UInt8) (hb : Lib.isSp b = true) : Lib.fieldsGo cur (b :: l) = flushL cur ++ Lib.fieldsGo [] l := by
  rw [Lib.fieldsGo, if_pos hb]
  unfold flushL
  split <;> rfl
theorem fieldsGo_nl (b : UInt8) (hb : Lib.isSp b = true) : ∀ (a cur l : List UInt8), Lib.fieldsGo cur (a ++ b :: l) = Lib.fieldsGo cur a ++ Lib.fieldsGo [] l
  | [], cur, l => by rw [List.nil_append, fieldsGo_flush _ _ _ hb, Lib.fieldsGo]; rfl
  | c :: a, cur, l => by
    rw [List.cons_append]
    cases hc : Lib.isSp c with
    | true => rw [fieldsGo_flush _ _ _ hc, fieldsGo_flush _ _ _ hc, fieldsGo_nl b hb a [] l, List.append_assoc]
    | false => rw [Lib.fieldsGo_more _ _ _ hc, Lib.fieldsGo_more _ _ _ hc, fieldsGo_nl b hb a _ l]
theorem lexGo_rem : ∀ (l w : List UInt8), (∀ b ∈ l, b ≠ 10) → lexGo w true l = flushL w
  | [], w, _ => by rw [lexGo]
  | b :: l, w, h => by
    rw [lexGo, if_neg (h b List.mem_cons_self)]
    exact lexGo_rem l w (fun c hc => h c (List.mem_cons_of_mem _ hc))
theorem lexGo_nl : ∀ (a w : List UInt8) (m : Bool) (l : List UInt8), (m = true → w = []) → lexGo w m (a ++ 10 :: l) = lexGo w m a ++ lexGo [] false l
  | [], w, true, l, hw => by rw [List.nil_append, lexGo_t, if_pos rfl, lexGo_nil, hw rfl]; rfl
  | [], w, false, l, hw => by rw [List.nil_append, lexGo_f, if_pos (Or.inl rfl), lexGo_nil]
  | b :: a, w, true, l, hw => by
    rw [List.cons_append, lexGo, lexGo]
    split
    · exact lexGo_nl a w false l (fun h => by cases h)
    · exact lexGo_nl a w true l hw
  | b :: a, w, false, l, hw => by
    rw [List.cons_append, lexGo, lexGo]
    split
    · rw [lexGo_nl a [] false l (fun _ => rfl), List.append_assoc]
    · split
      · rw [lexGo_nl a [] false l (fun _ => rfl), List.append_assoc]; rfl
      · split
        · rw [lexGo_nl a [] true l (fun _ => rfl), List.append_assoc]
        · exact lexGo_nl a _ false l (fun h => by cases h)
theorem isSp_ok (b : UInt8) (h : okL b = true) (h1 : ¬ (b = 10 ∨ b = 32)) : Lib.isSp b = false := by
  unfold okL at h
  unfold Lib.isSp
  have n10 : b ≠ 10 := fun e => h1 (Or.inl e)
  have n32 : b ≠ 32 := fun e => h1 (Or.inr e)
  rw [beq_eq_false_iff_ne.2 n10, Bool.false_or, Bool.and_eq_true] at h
  have h2 : 32 ≤ b.toNat := of_decide_eq_true h.1
  have ne : ∀ c : UInt8, c.toNat < 32 → (b == c) = false := fun c hc => beq_eq_false_iff_ne.2 (fun e => by rw [e] at h2; omega)
  rw [ne 9 (by decide), ne 10 (by decide), ne 11 (by decide), ne 12 (by decide), ne 13 (by decide), beq_eq_false_iff_ne.2 n32]; rfl
theorem repL_cons (b : UInt8) (l : List UInt8) : repL (b :: l) = (if hitB b = true then [32, b, 32] else [b]) ++ repL l := by
  unfold repL; rw [List.flatMap_cons]
theorem repL_append (a b : List UInt8) : repL (a ++ b) = repL a ++ repL b := by unfold repL; rw [List.flatMap_append]
/-- a line without its line end -/
theorem lineL : ∀ (a cur : List UInt8), (∀ b ∈ a, b ≠ 10) → (∀ b ∈ a, okL b = true) → Lib.fieldsGo cur (repL (cutL a)) = lexGo cur false a
  | [], cur, _, _ => by rw [lexGo]; unfold cutL; rw [List.takeWhile_nil]; show Lib.fieldsGo cur [] = _; rw [Lib.fieldsGo]; rfl
  | b :: a, cur, hn, ho => by
    have hn' : ∀ c ∈ a, c ≠ 10 := fun c hc => hn c (List.mem_cons_of_mem _ hc)
    have ho' : ∀ c ∈ a, okL c = true := fun c hc => ho c (List.mem_cons_of_mem _ hc)
    have ih := fun cur => lineL a cur hn' ho'
    have hb10 := hn b List.mem_cons_self
    have hbo := ho b List.mem_cons_self
    rw [lexGo]
    by_cases h35 : b = 35
    · subst h35
      rw [if_neg (by decide), if_neg (by decide), if_pos rfl, lexGo_rem _ _ hn']
      unfold cutL
      rw [List.takeWhile_cons, if_neg (by decide)]
      show Lib.fieldsGo cur [] = _
      rw [Lib.fieldsGo]
      show flushL cur = flushL cur ++ []
      rw [List.append_nil]
    · have hc : cutL (b :: a) = b :: cutL a := by unfold cutL; rw [List.takeWhile_cons, if_pos (bne_iff_ne.2 h35)]
      rw [hc, repL_cons]
      by_cases h32 : b = 10 ∨ b = 32
      · rw [if_pos h32]
        rcases h32 with h | h
        · exact absurd h hb10
        · subst h
          rw [if_neg (by decide)]
          show Lib.fieldsGo cur (32 :: repL (cutL a)) = _
          rw [fieldsGo_flush _ _ _ (by decide), ih]
      · rw [if_neg h32]
        by_cases hh : hitB b = true
        · rw [if_pos hh, if_pos hh]
          show Lib.fieldsGo cur (32 :: b :: 32 :: repL (cutL a)) = _
          rw [fieldsGo_flush _ _ _ (by decide), Lib.fieldsGo_more _ _ _ (isSp_ok b hbo h32), fieldsGo_flush _ _ _ (by decide), ih]
          rfl
        · rw [if_neg hh, if_neg hh, if_neg h35]
          show Lib.fieldsGo cur (b :: repL (cutL a)) = _
          rw [Lib.fieldsGo_more _ _ _ (isSp_ok b hbo h32), ih]
theorem cutL_self : ∀ l : List UInt8, (∀ b ∈ l, b ≠ 35) → cutL l = l
  | [], _ => rfl
  | b :: l, h => by
    have ih := cutL_self l (fun c hc => h c (List.mem_cons_of_mem _ hc))
    unfold cutL at ih ⊢
    rw [List.takeWhile_cons, if_pos (bne_iff_ne.2 (h b List.mem_cons_self)), ih]
/-- a line with its line end -/
theorem lineNl (a : List UInt8) (hn : ∀ b ∈ a, b ≠ 10) (ho : ∀ b ∈ a, okL b = true) (r : List UInt8) : Lib.fieldsGo [] (repL (cutL (a ++ [10])) ++ 10 :: r) = lexGo [] false a ++ Lib.fieldsGo [] r := by
  rw [fieldsGo_nl 10 (by decide)]
  congr 1
  by_cases h : 35 ∈ a
  · rw [← lineL a [] hn ho]
    congr 2
    unfold cutL
    have : ∀ l : List UInt8, 35 ∈ l → (l ++ [10]).takeWhile (fun b => b != 35) = l.takeWhile (fun b => b != 35) := by
      intro l
      induction l with
      | nil => intro h; cases h
      | cons c l ih =>
        intro h
        rw [List.cons_append, List.takeWhile_cons, List.takeWhile_cons]
        split
        · rename_i hc
          rcases List.mem_cons.1 h with h | h
          · subst h; cases hc
          · rw [ih h]
        · rfl
    exact this a h
  · have e := cutL_self
    have n35 : ∀ b ∈ a, b ≠ 35 := fun b hb e => h (e ▸ hb)
    rw [e (a ++ [10]) (fun b hb => by
      rcases List.mem_append.1 hb with hb | hb
      · exact n35 b hb
      · rw [List.mem_singleton] at hb; rw [hb]; decide), repL_append]
    show Lib.fieldsGo [] (repL a ++ 10 :: []) = _
    rw [fieldsGo_nl 10 (by decide), ← lineL a [] hn ho, e a n35]
    show _ ++ [] = _
    rw [List.append_nil]
/-! lines -/
theorem idx_neg {l : List UInt8} {c : UInt8} (h : ¬ 0 ≤ Lib.indexByte l c) : ∀ b ∈ l, b ≠ c := by
  intro b hb e
  subst e
  have h1 : Lib.indexByte l b = -1 := by have := Lib.indexByte_ge l b; omega
  obtain ⟨k, hk⟩ := List.getElem?_of_mem hb
  exact Lib.indexByte_none h1 k hk
theorem idx_split {l : List UInt8} {c : UInt8} (h : 0 ≤ Lib.indexByte l c) : ∃ a r, l = a ++ c :: r ∧ (a.length : Int) = Lib.indexByte l c ∧ ∀ b ∈ a, b ≠ c := by
  obtain ⟨o, ho⟩ : ∃ o : Nat, Lib.indexByte l c = o := ⟨(Lib.indexByte l c).toNat, by omega⟩
  obtain ⟨h1, h2⟩ := Lib.indexByte_some ho
  obtain ⟨hlt, he⟩ := List.getElem?_eq_some_iff.1 h1
  refine ⟨l.take o, l.drop (o + 1), ?_, ?_, ?_⟩
  · rw [← he, ← List.drop_eq_getElem_cons hlt, List.take_append_drop]
  · rw [ho, List.length_take]; omega
  · intro b hb e
    subst e
    obtain ⟨k, hk⟩ := List.getElem?_of_mem hb
    have hkl : k < o := by
      have := (List.getElem?_eq_some_iff.1 hk).1
      rw [List.length_take] at this; omega
    rw [List.getElem?_take, if_pos hkl] at hk
    exact h2 k hkl hk
theorem ext_list (s : ByteArray) (i j : Nat) : (s.extract i j).data.toList = (s.data.toList.take j).drop i := by
  simp only [ByteArray.data_extract, Array.toList_extract, List.extract_eq_drop_take']
theorem cutB_list (x : ByteArray) : (cutB x).data.toList = cutL x.data.toList := by
  unfold cutB
  split
  · rename_i h
    obtain ⟨a, r, he, hl, hn⟩ := idx_split h
    rw [ext_list, ← hl, Int.toNat_natCast, he, List.drop_zero, List.take_left' rfl]
    unfold cutL
    have : ∀ l : List UInt8, (∀ b ∈ l, b ≠ 35) → (l ++ 35 :: r).takeWhile (fun b => b != 35) = l := by
      intro l
      induction l with
      | nil => intro _; rw [List.nil_append, List.takeWhile_cons, if_neg (by decide)]
      | cons c l ih =>
        intro h
        rw [List.cons_append, List.takeWhile_cons, if_pos (bne_iff_ne.2 (h c List.mem_cons_self)), ih (fun d hd => h d (List.mem_cons_of_mem _ hd))]
    rw [this a hn]
  · rename_i h
    rw [cutL_self _ (idx_neg h)]
theorem plB_list : ∀ (xs : List ByteArray) (a : ByteArray), (xs.foldl plStep a).data.toList = a.data.toList ++ xs.flatMap (fun x => cutL x.data.toList ++ [10])
  | [], a => by rw [List.foldl_nil, List.flatMap_nil, List.append_nil]
  | x :: xs, a => by
    rw [List.foldl_cons, plB_list xs, List.flatMap_cons, ← List.append_assoc]
    congr 1
    unfold plStep
    rw [ByteArray.data_append, ByteArray.data_append, Array.toList_append, Array.toList_append, cutB_list]
/-- what the program's road of strings gives -/
theorem road : ∀ (k : Nat) (s : ByteArray), s.size ≤ k → (∀ b ∈ s.data.toList, okL b = true) →
    Lib.fieldsGo [] (repL ((linesB k s).flatMap (fun x => cutL x.data.toList ++ [10]))) = lexGo [] false s.data.toList
  | 0, s, hk, _ => by
    have : s.data.toList = [] := List.eq_nil_of_length_eq_zero (by rw [str_len]; omega)
    rw [this, lexGo_nil]; rfl
  | k + 1, s, hk, ho => by
    by_cases h0 : 0 < s.size
    · rw [linesB, if_pos h0]
      by_cases h : 0 ≤ Lib.indexByte s.data.toList 10
      · rw [if_pos h]
        obtain ⟨a, r, he, hl, hn⟩ := idx_split h
        have hsz := str_len s
        rw [he, List.length_append, List.length_cons] at hsz
        have e1 : (s.extract 0 (Lib.indexByte s.data.toList 10 + 1).toNat).data.toList = a ++ [10] := by
          rw [ext_list, ← hl, List.drop_zero, he, show ((a.length : Int) + 1).toNat = a.length + 1 by omega, show a ++ 10 :: r = (a ++ [10]) ++ r by rw [List.append_assoc]; rfl]
          exact List.take_left' (by rw [List.length_append]; rfl)
        have e2 : (s.extract (Lib.indexByte s.data.toList 10 + 1).toNat s.size).data.toList = r := by
          rw [ext_list, ← str_len s, List.take_length, ← hl, he, show ((a.length : Int) + 1).toNat = a.length + 1 by omega, show a ++ 10 :: r = (a ++ [10]) ++ r by rw [List.append_assoc]; rfl]
          exact List.drop_left' (by rw [List.length_append]; rfl)
        have hoa : ∀ b ∈ a, okL b = true := fun b hb => ho b (by rw [he]; exact List.mem_append_left _ hb)
        have hor : ∀ b ∈ r, okL b = true := fun b hb => ho b (by rw [he]; exact List.mem_append_right _ (List.mem_cons_of_mem _ hb))
        have ih := road k (s.extract (Lib.indexByte s.data.toList 10 + 1).toNat s.size) (by rw [← str_len, e2]; omega) (by rw [e2]; exact hor)
        rw [e2] at ih
        rw [List.flatMap_cons, e1, repL_append, repL_append]
        rw [show ∀ q : List UInt8, (repL (cutL (a ++ [10])) ++ repL [10]) ++ q = repL (cutL (a ++ [10])) ++ 10 :: q from fun q => by rw [List.append_assoc]; rfl]
        rw [lineNl a hn hoa, ih, he, lexGo_nl a [] false r (fun _ => rfl)]
      · rw [if_neg h]
        have hn := idx_neg h
        rw [List.flatMap_cons, List.flatMap_nil, List.append_nil, repL_append]
        show Lib.fieldsGo [] (repL (cutL s.data.toList) ++ 10 :: []) = _
        rw [fieldsGo_nl 10 (by decide), lineL _ _ hn ho]
        show _ ++ [] = _
        rw [List.append_nil]
    · have : s.data.toList = [] := List.eq_nil_of_length_eq_zero (by rw [str_len]; omega)
      rw [this, lexGo_nil, linesB, if_neg h0]; rfl
def bsOf (l : List UInt8) : ByteArray := ⟨l.toArray⟩
theorem bsOf_data (s : ByteArray) : bsOf s.data.toList = s := by cases s; rfl
theorem wordsB_eq (s : ByteArray) (ho : s.data.toList.all okL = true) : wordsB s = (lexGo [] false s.data.toList).map bsOf := by
  unfold wordsB apartB
  show (Lib.fieldsGo [] (repL (plB (linesB s.size s)).data.toList)).map _ = _
  unfold plB
  rw [plB_list]
  show (Lib.fieldsGo [] (repL ([] ++ _))).map _ = _
  rw [List.nil_append, road s.size s (Nat.le_refl _) (fun b hb => List.all_eq_true.1 ho b hb)]
  rfl
/-- may a text be cut? -/
def okS (s : ByteArray) : Bool := decide (s.size ≤ 2048) && s.data.toList.all okL
theorem words_ok (s : ByteArray) (h : okS s = true) : lex_Words.f s = some ((lexGo [] false s.data.toList).map bsOf, 0) := by
  have h2 : s.data.toList.all okL = true := by unfold okS at h; rw [Bool.and_eq_true] at h; exact h.2
  unfold lex_Words.f
  rw [if_pos (show (decide (s.size ≤ 2048) && s.data.toList.all okL) = true from h), wordsB_eq s h2]
theorem words_bad (s : ByteArray) (h : okS s = false) : lex_Words.f s = some ([], 400) := by
  unfold lex_Words.f
  rw [if_neg (show ¬ (decide (s.size ≤ 2048) && s.data.toList.all okL) = true by unfold okS at h; rw [h]; decide)]
end Go.Proofs.YtljlmkbcichlpaaDoor.G
