/- What the laws over words share: how many words, how long; comparing, spoiling; awake. -/
import Derived.Test.YtljlmkbcichlpaaDoorLexRef
import Derived.Test.YtljlmkbcichlpaaDoorG5
import Derived.Test.YtljlmkbcichlpaaDoorG6
namespace Go.Proofs.YtljlmkbcichlpaaDoor.G
open Go.RowKit Go.Proofs.YtljlmkbcichlpaaDoorW.PrintWords Go.Proofs.YtljlmkbcichlpaaDoorW.PrintLast Go.Proofs.YtljlmkbcichlpaaDoorW.PrintMore
set_option linter.unusedVariables false
set_option linter.unusedSimpArgs false
theorem flush_mem {w x : List UInt8} (h : x ∈ flushL w) : x = w ∧ w ≠ [] := by
  unfold flushL at h
  cases w with
  | nil => cases h
  | cons b w => exact ⟨List.mem_singleton.1 h, List.cons_ne_nil _ _⟩
theorem lexGo_size : ∀ (l w : List UInt8) (m : Bool) (x : List UInt8), x ∈ lexGo w m l → x.length ≤ w.length + l.length
  | [], w, m, x, h => by rw [lexGo_nil] at h; rw [(flush_mem h).1]; simp
  | b :: l, w, true, x, h => by
    rw [lexGo_t] at h
    rw [List.length_cons]
    split at h
    · have := lexGo_size l w false x h; omega
    · have := lexGo_size l w true x h; omega
  | b :: l, w, false, x, h => by
    rw [lexGo_f] at h
    rw [List.length_cons]
    split at h
    · rcases List.mem_append.1 h with h | h
      · rw [(flush_mem h).1]; omega
      · have := lexGo_size l [] false x h; rw [List.length_nil] at this; omega
    · split at h
      · rcases List.mem_append.1 h with h | h
        · rw [(flush_mem h).1]; omega
        · rcases List.mem_cons.1 h with h | h
          · rw [h]; simp only [List.length_cons, List.length_nil]; omega
          · have := lexGo_size l [] false x h; rw [List.length_nil] at this; omega
      · split at h
        · rcases List.mem_append.1 h with h | h
          · rw [(flush_mem h).1]; omega
          · have := lexGo_size l [] true x h; rw [List.length_nil] at this; omega
        · have := lexGo_size l (w ++ [b]) false x h; rw [List.length_append] at this; simp only [List.length_cons, List.length_nil] at this; omega
theorem lexGo_len : ∀ (l w : List UInt8) (m : Bool), (lexGo w m l).length ≤ 2 * l.length + 1
  | [], w, m => by rw [lexGo_nil]; have := flush_len w; omega
  | b :: l, w, true => by
    rw [lexGo_t, List.length_cons]
    split
    · have := lexGo_len l w false; omega
    · have := lexGo_len l w true; omega
  | b :: l, w, false => by
    have hf := flush_len w
    rw [lexGo_f, List.length_cons]
    split
    · have := lexGo_len l [] false; rw [List.length_append]; omega
    · split
      · have := lexGo_len l [] false; rw [List.length_append, List.length_cons]; omega
      · split
        · have := lexGo_len l [] true; rw [List.length_append]; omega
        · have := lexGo_len l (w ++ [b]) false; omega
theorem okS_size {s : ByteArray} (h : okS s = true) : s.size ≤ 2048 := by
  unfold okS at h; rw [Bool.and_eq_true] at h; exact of_decide_eq_true h.1
theorem answer_len (s : ByteArray) : (answer s (okS s)).1.length ≤ 5000 := by
  unfold answer
  split
  · rename_i h
    have h1 := okS_size h
    have h2 := lexGo_len s.data.toList [] false
    rw [str_len] at h2
    show (List.map _ _).length ≤ _
    rw [List.length_map]; omega
  · exact Nat.zero_le _
theorem answer_size (s : ByteArray) : ∀ x ∈ (answer s (okS s)).1, x.size ≤ 5000 := by
  intro x hx
  unfold answer at hx
  split at hx
  · rename_i h
    have h1 := okS_size h
    obtain ⟨y, hy, rfl⟩ := List.mem_map.1 hx
    have h2 := lexGo_size _ _ _ _ hy
    rw [str_len, List.length_nil] at h2
    rw [bsOf_size]; omega
  · cases hx
theorem rdS_get (l : List ByteArray) (i : Nat) (h : i < l.length) : rdOf ByteArray.empty l (i : Int) = l[i] := by
  show l.getD _ _ = _
  rw [Int.toNat_natCast, List.getD_eq_getElem?_getD, List.getElem?_eq_getElem h]; rfl
theorem sameTexts_l0 (a : List ByteArray) (ha : a.length ≤ 9223372036854775806) : ∀ (n i : Nat), i + n = a.length → Ev (fun k => sleuthlaw0_SameTexts.l0 k a a (i : Int)) true := by
  intro n
  induction n with
  | zero =>
    intro i hi
    refine Ev.step (f := fun _ => some true) (fun k => ?_) (Ev.now _)
    rw [sleuthlaw0_SameTexts.l0, if_neg (by omega)]
  | succ n ih =>
    intro i hi
    have hw : wrap64 ((i : Int) + 1) = ((i + 1 : Nat) : Int) := by rw [w64 (by omega) (by omega)]; omega
    refine Ev.step (f := fun k => sleuthlaw0_SameTexts.l0 k a a ((i + 1 : Nat) : Int)) (fun k => ?_) (ih (i + 1) (by omega))
    rw [sleuthlaw0_SameTexts.l0, if_pos (by omega), if_pos (by omega), if_pos (by omega), if_pos rfl, hw]
theorem sameTexts_ev (a : List ByteArray) (ha : a.length ≤ 9223372036854775806) : Ev (fun k => sleuthlaw0_SameTexts.f k a a) true := by
  unfold sleuthlaw0_SameTexts.f
  simp only [if_pos]
  exact sameTexts_l0 a ha a.length 0 (by omega)
theorem spoilTexts_l0 : ∀ (n i : Nat) (l : List ByteArray), i + n = l.length → l.length ≤ 9223372036854775806 → (∀ j s, i ≤ j → l[j]? = some s → s.size ≤ 9223372036854775806) → ∃ r, Ev (fun k => sleuthlaw0_SpoilTexts.l0 k l (i : Int)) r
  | 0, i, l, h, _, _ => ⟨l, Ev.step (f := fun _ => some l) (fun k => by rw [sleuthlaw0_SpoilTexts.l0, if_neg (by omega)]) (Ev.now _)⟩
  | n + 1, i, l, h, hl, hs => by
    have hi : i < l.length := by omega
    have e := rdS_get l i hi
    have hw : wrap64 ((i : Int) + 1) = ((i + 1 : Nat) : Int) := by rw [w64 (by omega) (by omega)]; omega
    obtain ⟨r, h1⟩ := spoilTexts_l0 n (i + 1) (l.set i ((⟨#[126]⟩ : ByteArray) ++ l[i])) (by rw [List.length_set]; omega) (by rw [List.length_set]; exact hl) (fun j s hj hjs => hs j s (by omega) (by rw [List.getElem?_set_ne (by omega)] at hjs; exact hjs))
    have hz := hs i _ (Nat.le_refl _) (List.getElem?_eq_getElem hi)
    have c1 : 1 + (l[i]).size ≤ 9223372036854775807 := by omega
    have c2 : (i : Int) < (l.length : Int) := by omega
    have c3 : 0 ≤ (i : Int) := by omega
    refine ⟨r, Ev.step (f := fun k => sleuthlaw0_SpoilTexts.l0 k (l.set i ((⟨#[126]⟩ : ByteArray) ++ l[i])) ((i + 1 : Nat) : Int)) (fun k => ?_) h1⟩
    rw [sleuthlaw0_SpoilTexts.l0, if_pos c2, if_pos c3, e, if_pos c1, Int.toNat_natCast, hw]
theorem spoilTexts_ev (l : List ByteArray) (hl : l.length ≤ 9223372036854775806) (hs : ∀ s ∈ l, s.size ≤ 9223372036854775806) : ∃ r, Ev (fun k => sleuthlaw0_SpoilTexts.f k l) r := by
  obtain ⟨r, h⟩ := spoilTexts_l0 l.length 0 l (by omega) hl (fun j s _ h => hs s (List.mem_of_getElem? h))
  exact ⟨r, h⟩
theorem wake1 : lex_Words.f (⟨#[40, 100, 101, 102, 32, 48, 32, 36, 49, 41, 35, 32, 110, 111, 10, 32, 120, 35]⟩ : ByteArray) = some ([⟨#[40]⟩, ⟨#[100, 101, 102]⟩, ⟨#[48]⟩, ⟨#[36, 49]⟩, ⟨#[41]⟩, ⟨#[120]⟩], 0) := by
  rw [words_ok _ (by decide)]
  congr 2
theorem wake2 : lex_Words.f (⟨#[9]⟩ : ByteArray) = some ([], 400) := words_bad _ (by decide)
theorem awake_ev : Ev (fun k => sleuthlaw4_awake.f k) true := by
  unfold sleuthlaw4_awake.f
  simp only [wake1, wake2, Option.bind_some, sleuthlaw0_Num.f]
  refine Ev.bind (sameTexts_ev _ (by decide)) ?_
  simp only [if_pos]
  exact Ev.now _
end Go.Proofs.YtljlmkbcichlpaaDoor.G
