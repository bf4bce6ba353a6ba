/- The document's words: the same walk over the bytes. -/
import Derived.Test.YtljlmkbcichlpaaDoorLexPure
import Derived.Test.YtljlmkbcichlpaaDoorG4
namespace Go.Proofs.YtljlmkbcichlpaaDoor.G
open Go.RowKit Go.Proofs.YtljlmkbcichlpaaDoorW.PrintWords Go.Proofs.YtljlmkbcichlpaaDoorW.PrintLast Go.Proofs.YtljlmkbcichlpaaDoorW.PrintMore
set_option linter.unusedVariables false
set_option linter.unusedSimpArgs false
theorem w64 {x : Int} (h0 : -9223372036854775808 ≤ x) (h1 : x ≤ 9223372036854775807) : wrap64 x = x := by unfold wrap64; omega
theorem bt_at (s : ByteArray) (i : Nat) (b : UInt8) (h : s.data.toList[i]? = some b) : bt s (i : Int) = (b.toNat : Int) := by
  obtain ⟨hl, he⟩ := List.getElem?_eq_some_iff.1 h
  unfold bt
  have h' : (i : Int).toNat < s.size := by rw [← str_len]; omega
  rw [dif_pos h', ← he]
  rfl
theorem bsOf_toList (l : List UInt8) : (bsOf l).toList = l := by rw [Lib.toList_data]; rfl
theorem bsOf_append (a b : List UInt8) : bsOf a ++ bsOf b = bsOf (a ++ b) := by
  rw [← bsOf_data (bsOf a ++ bsOf b)]; congr 1
theorem bsOf_size (a : List UInt8) : (bsOf a).size = a.length := by unfold bsOf; exact List.size_toArray
theorem ext_one (s : ByteArray) (i : Nat) (b : UInt8) (h : s.data.toList[i]? = some b) : s.extract i (i + 1) = bsOf [b] := by
  obtain ⟨hl, he⟩ := List.getElem?_eq_some_iff.1 h
  rw [← bsOf_data (s.extract i (i + 1))]
  congr 1
  rw [ext_list, List.take_succ_eq_append_getElem hl, he, List.drop_left' (by rw [List.length_take]; omega)]
theorem toNat_ne {b c : UInt8} {n : Int} (h : b ≠ c) (hn : (c.toNat : Int) = n) : ¬ (b.toNat : Int) = n := fun e => h (UInt8.toNat_inj.1 (by omega))
theorem ref_flush (s : ByteArray) (x5 : List ByteArray) (w : List UInt8) (i c : Int) (R : List ByteArray × Int) (hx : x5.length < 8796093022208)
    (h : Ev (fun k => sleuthref1_Words.j4 k s (x5 ++ (flushL w).map bsOf) (bsOf []) i c) R) : Ev (fun k => sleuthref1_Words.j3 k s x5 (bsOf w) i c false) R := by
  cases w with
  | nil =>
    have e : x5 ++ (flushL []).map bsOf = x5 := List.append_nil _
    rw [e] at h
    refine Ev.step (f := fun k => sleuthref1_Words.j4 k s x5 (bsOf []) i c) (fun k => ?_) h
    rw [sleuthref1_Words.j3, if_neg (by decide), if_pos (bsOf_toList [])]
  | cons b w =>
    refine Ev.step (f := fun k => sleuthref1_Words.j4 k s (x5 ++ [bsOf (b :: w)]) (bsOf []) i c) (fun k => ?_) h
    rw [sleuthref1_Words.j3, if_neg (by decide), if_neg (by rw [bsOf_toList]; exact List.cons_ne_nil _ _), if_pos hx]
    rfl
theorem ref_l2 (s : ByteArray) (hs : s.size ≤ 2048) (x5 : List ByteArray) (x6 : ByteArray) (i : Nat) (hi : i ≤ s.size) (c : Int) (hc : ¬ c = 35) (R : List ByteArray × Int)
    (h : Ev (fun k => sleuthref1_Words.l1 k s x5 x6 ((i + 1 : Nat) : Int)) R) : Ev (fun k => sleuthref1_Words.l2 k s x5 x6 (i : Int) c) R := by
  have hw : wrap64 ((i : Int) + 1) = ((i + 1 : Nat) : Int) := by rw [w64 (by omega) (by omega)]; omega
  refine Ev.step (f := fun k => sleuthref1_Words.l1 k s x5 x6 ((i + 1 : Nat) : Int)) (fun k => ?_) h
  rw [sleuthref1_Words.l2, if_neg hc, hw]
theorem ref_j4 (s : ByteArray) (x5 : List ByteArray) (x6 : ByteArray) (i c : Int) (h0 : ¬ c = 40) (h1 : ¬ c = 41) (R : List ByteArray × Int)
    (h : Ev (fun k => sleuthref1_Words.l2 k s x5 x6 i c) R) : Ev (fun k => sleuthref1_Words.j4 k s x5 x6 i c) R := by
  refine Ev.step (f := fun k => sleuthref1_Words.j5 k s x5 x6 i c false) (fun k => ?_) ?_
  · rw [sleuthref1_Words.j4, if_neg h0, beq_eq_false_iff_ne.2 h1]
  refine Ev.step (f := fun k => sleuthref1_Words.j6 k s x5 x6 i c) (fun k => ?_) ?_
  · rw [sleuthref1_Words.j5, if_neg (by decide)]
  exact Ev.step (f := fun k => sleuthref1_Words.l2 k s x5 x6 i c) (fun k => by rw [sleuthref1_Words.j6]) h
theorem ref_bracket (s : ByteArray) (hs : s.size ≤ 2048) (x5 : List ByteArray) (x6 : ByteArray) (i : Nat) (b : UInt8) (hb : s.data.toList[i]? = some b) (hh : hitB b = true) (hx : x5.length < 8796093022208) (R : List ByteArray × Int)
    (h : Ev (fun k => sleuthref1_Words.l1 k s (x5 ++ [bsOf [b]]) x6 ((i + 1 : Nat) : Int)) R) : Ev (fun k => sleuthref1_Words.j4 k s x5 x6 (i : Int) (b.toNat : Int)) R := by
  have hil : i < s.size := by rw [← str_len]; exact (List.getElem?_eq_some_iff.1 hb).1
  have hw : wrap64 ((i : Int) + 1) = ((i + 1 : Nat) : Int) := by rw [w64 (by omega) (by omega)]; omega
  have hbb : b = 40 ∨ b = 41 := by unfold hitB at hh; rw [Bool.or_eq_true, beq_iff_eq, beq_iff_eq] at hh; exact hh
  refine Ev.step (f := fun k => sleuthref1_Words.j5 k s x5 x6 (i : Int) (b.toNat : Int) true) (fun k => ?_) ?_
  · rw [sleuthref1_Words.j4]
    rcases hbb with rfl | rfl
    · rw [if_pos (by decide)]
    · rw [if_neg (by decide)]; rfl
  refine Ev.step (f := fun k => sleuthref1_Words.j6 k s (x5 ++ [bsOf [b]]) x6 (i : Int) (b.toNat : Int)) (fun k => ?_) ?_
  · rw [sleuthref1_Words.j5, if_pos rfl, if_pos (by omega), hw, if_pos (by omega), if_pos (by omega), if_pos hx, Int.toNat_natCast, Int.toNat_natCast, ext_one s i b hb]
  refine Ev.step (f := fun k => sleuthref1_Words.l2 k s (x5 ++ [bsOf [b]]) x6 (i : Int) (b.toNat : Int)) (fun k => by rw [sleuthref1_Words.j6]) ?_
  exact ref_l2 s hs _ _ i (by omega) _ (by rcases hbb with rfl | rfl <;> decide) R h
theorem ref_rem (s : ByteArray) (hs : s.size ≤ 2048) (x5 : List ByteArray) : ∀ (n i : Nat), i + n + 1 = s.size →
    (∀ j, i < j → j ≤ s.size → Ev (fun k => sleuthref1_Words.l1 k s x5 (bsOf []) (j : Int)) (x5 ++ (lexGo [] false (s.data.toList.drop j)).map bsOf, 0)) →
    Ev (fun k => sleuthref1_Words.l2 k s x5 (bsOf []) (i : Int) 35) (x5 ++ (lexGo [] true (s.data.toList.drop (i + 1))).map bsOf, 0)
  | 0, i, hn, h => by
    have hw : wrap64 ((i : Int) + 1) = ((i + 1 : Nat) : Int) := by rw [w64 (by omega) (by omega)]; omega
    have hd : s.data.toList.drop (i + 1) = [] := List.drop_eq_nil_of_le (by rw [str_len]; omega)
    have := h (i + 1) (by omega) (by omega)
    rw [hd, lexGo_nil] at this
    rw [hd, lexGo_nil]
    refine Ev.step (f := fun k => sleuthref1_Words.l1 k s x5 (bsOf []) ((i + 1 : Nat) : Int)) (fun k => ?_) this
    rw [sleuthref1_Words.l2, if_pos rfl, hw, if_neg (by omega)]
  | n + 1, i, hn, h => by
    have hw : wrap64 ((i : Int) + 1) = ((i + 1 : Nat) : Int) := by rw [w64 (by omega) (by omega)]; omega
    have hil : i + 1 < s.data.toList.length := by rw [str_len]; omega
    obtain ⟨b, hb⟩ : ∃ b, s.data.toList[i + 1]? = some b := ⟨_, List.getElem?_eq_getElem hil⟩
    have hbe : s.data.toList[i + 1] = b := by rw [List.getElem?_eq_getElem hil] at hb; injection hb
    rw [List.drop_eq_getElem_cons hil, hbe, lexGo_t]
    by_cases h10 : b = 10
    · have := h (i + 1) (by omega) (by omega)
      rw [List.drop_eq_getElem_cons hil, hbe, lexGo_f, if_pos (Or.inl h10)] at this
      rw [if_pos h10]
      refine Ev.step (f := fun k => sleuthref1_Words.l1 k s x5 (bsOf []) ((i + 1 : Nat) : Int)) (fun k => ?_) this
      rw [sleuthref1_Words.l2, if_pos rfl, hw, if_pos (by omega), if_pos (by omega), bt_at s (i + 1) b hb, if_pos (by rw [h10]; rfl)]
    · rw [if_neg h10]
      have := ref_rem s hs x5 n (i + 1) (by omega) (fun j hj => h j (by omega))
      refine Ev.step (f := fun k => sleuthref1_Words.l2 k s x5 (bsOf []) ((i + 1 : Nat) : Int) 35) (fun k => ?_) this
      rw [sleuthref1_Words.l2, if_pos rfl, hw, if_pos (by omega), if_pos (by omega), bt_at s (i + 1) b hb, if_neg (toNat_ne (n := 10) h10 rfl)]
theorem flush_len (w : List UInt8) : (flushL w).length ≤ 1 := by unfold flushL; split <;> simp
theorem ref_l1 (s : ByteArray) (hs : s.size ≤ 2048) : ∀ (n i : Nat) (x5 : List ByteArray) (w : List UInt8), i + n = s.size → x5.length ≤ 2 * i → w.length ≤ i →
    Ev (fun k => sleuthref1_Words.l1 k s x5 (bsOf w) (i : Int)) (x5 ++ (lexGo w false (s.data.toList.drop i)).map bsOf, 0) := by
  intro n
  induction n using Nat.strongRecOn with
  | ind n ih =>
    intro i x5 w hn hx hwl
    by_cases hi : i < s.size
    · have hil : i < s.data.toList.length := by rw [str_len]; omega
      obtain ⟨b, hb⟩ : ∃ b, s.data.toList[i]? = some b := ⟨_, List.getElem?_eq_getElem hil⟩
      have hbe : s.data.toList[i] = b := by rw [List.getElem?_eq_getElem hil] at hb; injection hb
      have hfl := flush_len w
      have hw : wrap64 ((i : Int) + 1) = ((i + 1 : Nat) : Int) := by rw [w64 (by omega) (by omega)]; omega
      rw [List.drop_eq_getElem_cons hil, hbe, lexGo_f]
      refine Ev.step (f := fun k => sleuthref1_Words.j2 k s x5 (bsOf w) (i : Int) (b.toNat : Int)) (fun k => ?_) ?_
      · rw [sleuthref1_Words.l1, if_pos (by omega), if_pos (by omega), if_pos (by omega), bt_at s i b hb]
      by_cases h1 : b = 10 ∨ b = 32
      · rw [if_pos h1, List.map_append, ← List.append_assoc]
        refine Ev.step (f := fun k => sleuthref1_Words.j3 k s x5 (bsOf w) (i : Int) (b.toNat : Int) false) (fun k => ?_) ?_
        · rw [sleuthref1_Words.j2]
          rcases h1 with rfl | rfl
          · rw [if_pos (by decide)]
          · rw [if_neg (by decide), if_pos (by decide)]
        refine ref_flush s x5 w _ _ _ (by omega) ?_
        refine ref_j4 s _ _ _ _ (by rcases h1 with rfl | rfl <;> decide) (by rcases h1 with rfl | rfl <;> decide) _ ?_
        refine ref_l2 s hs _ _ i (by omega) _ (by rcases h1 with rfl | rfl <;> decide) _ ?_
        exact ih (n - 1) (by omega) (i + 1) _ [] (by omega) (by rw [List.length_append, List.length_map]; omega) (Nat.zero_le _)
      · rw [if_neg h1]
        have n10 : b ≠ 10 := fun e => h1 (Or.inl e)
        have n32 : b ≠ 32 := fun e => h1 (Or.inr e)
        by_cases hh : hitB b = true
        · have hbb : b = 40 ∨ b = 41 := by unfold hitB at hh; rw [Bool.or_eq_true, beq_iff_eq, beq_iff_eq] at hh; exact hh
          rw [if_pos hh, List.map_append, List.map_cons, ← List.append_assoc]
          refine Ev.step (f := fun k => sleuthref1_Words.j3 k s x5 (bsOf w) (i : Int) (b.toNat : Int) false) (fun k => ?_) ?_
          · rw [sleuthref1_Words.j2]
            rcases hbb with rfl | rfl
            · rw [if_neg (by decide), if_neg (by decide), if_pos (by decide)]
            · rw [if_neg (by decide), if_neg (by decide), if_neg (by decide), if_pos (by decide)]
          refine ref_flush s x5 w _ _ _ (by omega) ?_
          refine ref_bracket s hs _ _ i b hb hh (by rw [List.length_append, List.length_map]; omega) _ ?_
          have h9 := ih (n - 1) (by omega) (i + 1) (x5 ++ (flushL w).map bsOf ++ [bsOf [b]]) [] (by omega) (by simp only [List.length_append, List.length_map, List.length_cons, List.length_nil]; omega) (Nat.zero_le _)
          rw [List.append_assoc _ [bsOf [b]]] at h9
          exact h9
        · rw [if_neg hh]
          have n40 : b ≠ 40 := fun e => hh (by rw [e]; rfl)
          have n41 : b ≠ 41 := fun e => hh (by rw [e]; rfl)
          have e2 : ∀ k, sleuthref1_Words.j2 (k + 1) s x5 (bsOf w) (i : Int) (b.toNat : Int) = sleuthref1_Words.j3 k s x5 (bsOf w) (i : Int) (b.toNat : Int) ((b.toNat : Int) != 35) := fun k => by
            rw [sleuthref1_Words.j2, if_neg (toNat_ne (n := 10) n10 rfl), if_neg (toNat_ne (n := 32) n32 rfl), if_neg (toNat_ne (n := 40) n40 rfl), if_neg (toNat_ne (n := 41) n41 rfl)]
          refine Ev.step (f := fun k => sleuthref1_Words.j3 k s x5 (bsOf w) (i : Int) (b.toNat : Int) ((b.toNat : Int) != 35)) e2 ?_
          by_cases h35 : b = 35
          · subst h35
            rw [if_pos rfl, List.map_append, ← List.append_assoc]
            show Ev (fun k => sleuthref1_Words.j3 k s x5 (bsOf w) (i : Int) 35 false) _
            refine ref_flush s x5 w _ _ _ (by omega) ?_
            refine ref_j4 s _ _ _ _ (by decide) (by decide) _ ?_
            refine ref_rem s hs _ (n - 1) i (by omega) (fun j hj hj2 => ?_)
            exact ih (s.size - j) (by omega) j _ [] (by omega) (by rw [List.length_append, List.length_map]; omega) (Nat.zero_le _)
          · rw [if_neg h35, bne_iff_ne.2 (toNat_ne (n := 35) h35 rfl)]
            refine Ev.step (f := fun k => sleuthref1_Words.l1 k s x5 (bsOf (w ++ [b])) ((i + 1 : Nat) : Int)) (fun k => ?_) ?_
            · rw [sleuthref1_Words.j3, if_pos rfl, if_pos (by omega), hw, if_pos (by omega), if_pos (by omega), Int.toNat_natCast, Int.toNat_natCast, ext_one s i b hb, if_pos (by rw [bsOf_size, bsOf_size]; simp only [List.length_singleton]; omega), bsOf_append]
            · exact ih (n - 1) (by omega) (i + 1) x5 (w ++ [b]) (by omega) (by omega) (by rw [List.length_append, List.length_singleton]; omega)
    · have hie : i = s.size := by omega
      have hd : s.data.toList.drop i = [] := List.drop_eq_nil_of_le (by rw [str_len]; omega)
      rw [hd, lexGo_nil]
      refine Ev.step (f := fun k => sleuthref1_Words.j2 k s x5 (bsOf w) (i : Int) 10) (fun k => ?_) ?_
      · rw [sleuthref1_Words.l1, if_pos (by omega), if_neg (by omega)]
      refine Ev.step (f := fun k => sleuthref1_Words.j3 k s x5 (bsOf w) (i : Int) 10 false) (fun k => by rw [sleuthref1_Words.j2, if_pos rfl]) ?_
      refine ref_flush s x5 w _ _ _ (by omega) ?_
      refine ref_j4 s _ _ _ _ (by decide) (by decide) _ ?_
      refine ref_l2 s hs _ _ i (by omega) _ (by decide) _ ?_
      refine Ev.step (f := fun _ => some (x5 ++ (flushL w).map bsOf, 0)) (fun k => ?_) (Ev.now _)
      rw [sleuthref1_Words.l1, if_neg (by omega)]
theorem okL_iff (b : UInt8) : okL b = if (b.toNat : Int) = 10 then true else if (b.toNat : Int) < 32 then false else if (b.toNat : Int) > 126 then false else true := by
  unfold okL
  by_cases h : b = 10
  · subst h; rfl
  · rw [beq_eq_false_iff_ne.2 h, Bool.false_or, if_neg (toNat_ne (n := 10) h rfl)]
    by_cases h1 : (b.toNat : Int) < 32
    · rw [if_pos h1, decide_eq_false (by omega)]; rfl
    · rw [if_neg h1, decide_eq_true (by omega), Bool.true_and]
      by_cases h2 : (b.toNat : Int) > 126
      · rw [if_pos h2, decide_eq_false (by omega)]
      · rw [if_neg h2, decide_eq_true (by omega)]
def answer (s : ByteArray) (ok : Bool) : List ByteArray × Int := if ok = true then ((lexGo [] false s.data.toList).map bsOf, 0) else ([], 400)
theorem ref_l0 (s : ByteArray) (hs : s.size ≤ 2048) : ∀ (n i : Nat), i + n = s.size → Ev (fun k => sleuthref1_Words.l0 k s (i : Int)) (answer s ((s.data.toList.drop i).all okL))
  | 0, i, hn => by
    have hd : s.data.toList.drop i = [] := List.drop_eq_nil_of_le (by rw [str_len]; omega)
    rw [hd]
    refine Ev.step (f := fun k => sleuthref1_Words.l1 k s [] (bsOf []) ((0 : Nat) : Int)) (fun k => ?_) ?_
    · rw [sleuthref1_Words.l0, if_neg (by omega)]; rfl
    · exact ref_l1 s hs s.size 0 [] [] (by omega) (Nat.zero_le _) (Nat.zero_le _)
  | n + 1, i, hn => by
    have hil : i < s.data.toList.length := by rw [str_len]; omega
    obtain ⟨b, hb⟩ : ∃ b, s.data.toList[i]? = some b := ⟨_, List.getElem?_eq_getElem hil⟩
    have hbe : s.data.toList[i] = b := by rw [List.getElem?_eq_getElem hil] at hb; injection hb
    have hw : wrap64 ((i : Int) + 1) = ((i + 1 : Nat) : Int) := by rw [w64 (by omega) (by omega)]; omega
    have ih := ref_l0 s hs n (i + 1) (by omega)
    have e : ∀ k, sleuthref1_Words.l0 (k + 1) s (i : Int) = if okL b = true then sleuthref1_Words.l0 k s ((i + 1 : Nat) : Int) else some ([], 400) := fun k => by
      rw [sleuthref1_Words.l0, if_pos (by omega), if_pos (by omega), bt_at s i b hb, hw, okL_iff]
      split
      · rw [if_pos rfl]
      · split
        · rw [if_neg (by decide)]
        · split
          · rw [if_neg (by decide)]
          · rw [if_pos rfl]
    rw [List.drop_eq_getElem_cons hil, hbe, List.all_cons]
    cases ho : okL b with
    | true =>
      rw [Bool.true_and]
      exact Ev.step (f := fun k => sleuthref1_Words.l0 k s ((i + 1 : Nat) : Int)) (fun k => by rw [e, ho, if_pos rfl]) ih
    | false =>
      rw [Bool.false_and]
      exact Ev.step (f := fun _ => some ([], 400)) (fun k => by rw [e, ho, if_neg (by decide)]) (Ev.now _)
theorem refWords_ev (s : ByteArray) : Ev (fun k => sleuthref1_Words.f k s) (answer s (okS s)) := by
  unfold sleuthref1_Words.f okS
  by_cases hs : s.size ≤ 2048
  · simp only [if_neg (show ¬ (s.size : Int) > 2048 by omega), decide_eq_true hs, Bool.true_and]
    exact ref_l0 s hs s.size 0 (by omega)
  · simp only [if_pos (show (s.size : Int) > 2048 by omega), decide_eq_false hs, Bool.false_and]
    exact Ev.now _
theorem words_answer (s : ByteArray) : lex_Words.f s = some (answer s (okS s)) := by
  cases h : okS s with
  | true => rw [words_ok s h]; rfl
  | false => rw [words_bad s h]; rfl
end Go.Proofs.YtljlmkbcichlpaaDoor.G
