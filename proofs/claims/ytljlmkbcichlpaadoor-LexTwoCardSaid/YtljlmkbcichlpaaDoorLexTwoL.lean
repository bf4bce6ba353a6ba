/- The law LexTwo, as a plain statement about what the program computes. -/
import Derived.Test.YtljlmkbcichlpaaDoorLexWake
import Derived.Test.YtljlmkbcichlpaaDoorG9
namespace Go.Proofs.YtljlmkbcichlpaaDoor.G
open Go.RowKit Go.Proofs.YtljlmkbcichlpaaDoorW.PrintWords Go.Proofs.YtljlmkbcichlpaaDoorW.PrintLast Go.Proofs.YtljlmkbcichlpaaDoorW.PrintMore
set_option linter.unusedVariables false
set_option linter.unusedSimpArgs false
theorem two_list (a b : ByteArray) : ((a ++ (⟨#[10]⟩ : ByteArray)) ++ b).data.toList = a.data.toList ++ 10 :: b.data.toList := by
  rw [ByteArray.data_append, ByteArray.data_append, Array.toList_append, Array.toList_append, List.append_assoc]; rfl
theorem two_size (a b : ByteArray) : ((a ++ (⟨#[10]⟩ : ByteArray)) ++ b).size = a.size + 1 + b.size := by
  rw [ByteArray.size_append, ByteArray.size_append]; rfl
theorem two_ok {a b : ByteArray} (h : okS ((a ++ (⟨#[10]⟩ : ByteArray)) ++ b) = true) : okS a = true ∧ okS b = true := by
  have h1 := okS_size h
  rw [two_size] at h1
  unfold okS at h ⊢
  rw [Bool.and_eq_true, two_list, List.all_append, List.all_cons, Bool.and_eq_true, Bool.and_eq_true] at h
  rw [decide_eq_true (show a.size ≤ 2048 by omega), decide_eq_true (show b.size ≤ 2048 by omega), h.2.1, h.2.2.2]
  exact ⟨rfl, rfl⟩
theorem answer_bad {s : ByteArray} (h : okS s = false) : answer s (okS s) = ([], 400) := by rw [h]; rfl
theorem answer_ok {s : ByteArray} (h : okS s = true) : answer s (okS s) = ((lexGo [] false s.data.toList).map bsOf, 0) := by rw [h]; rfl
theorem lexTwo_pure (a0 a1 : ByteArray) (h0 : a0.size ≤ 140737488351232) (h1 : a1.size ≤ 140737488351232) : ∃ k, sleuthlaw4_LexTwo.f k a0 a1 = some true := by
  refine Ev.rounds (g := fun k => sleuthlaw4_LexTwo.f k a0 a1) ?_
  have l0 := answer_len a0
  have l1 := answer_len a1
  have l2 := answer_len ((a0 ++ (⟨#[10]⟩ : ByteArray)) ++ a1)
  unfold sleuthlaw4_LexTwo.f
  refine Ev.bind awake_ev ?_
  simp only [words_answer, Option.bind_some, sleuthlaw0_Num.f, if_pos]
  have c1 : a0.size + 1 ≤ 9223372036854775807 := by omega
  have c2 : (a0 ++ (⟨#[10]⟩ : ByteArray)).size + a1.size ≤ 9223372036854775807 := by rw [ByteArray.size_append]; show a0.size + 1 + a1.size ≤ _; omega
  simp only [if_pos c1, if_pos c2]
  have bad : okS ((a0 ++ (⟨#[10]⟩ : ByteArray)) ++ a1) = false → Ev (fun k => sleuthlaw4_LexTwo.j0 k (answer a0 (okS a0)).1 (answer a1 (okS a1)).1 (answer ((a0 ++ (⟨#[10]⟩ : ByteArray)) ++ a1) (okS ((a0 ++ (⟨#[10]⟩ : ByteArray)) ++ a1))).1 (answer ((a0 ++ (⟨#[10]⟩ : ByteArray)) ++ a1) (okS ((a0 ++ (⟨#[10]⟩ : ByteArray)) ++ a1))).2 true) true := fun hb => by
    refine Ev.step (f := fun _ => some true) (fun k => ?_) (Ev.now _)
    rw [sleuthlaw4_LexTwo.j0, if_pos rfl, answer_bad hb]
    rfl
  cases k2 : okS ((a0 ++ (⟨#[10]⟩ : ByteArray)) ++ a1) with
  | false =>
    rw [k2] at bad
    have bad := bad rfl
    have e2 : (answer ((a0 ++ (⟨#[10]⟩ : ByteArray)) ++ a1) false).2 = 400 := rfl
    by_cases d0 : (answer a0 (okS a0)).2 = 0
    · simp only [if_pos d0]
      by_cases d1 : (answer a1 (okS a1)).2 = 0
      · simp only [if_pos d1]
        exact bad
      · simp only [if_neg d1]
        exact bad
    · simp only [if_neg d0]
      exact bad
  | true =>
    obtain ⟨k0, k1⟩ := two_ok k2
    rw [k0, k1]
    rw [k0] at l0
    rw [k1] at l1
    rw [k2] at l2
    have e0 : (answer a0 true).2 = 0 := rfl
    have e1 : (answer a1 true).2 = 0 := rfl
    have e2 : (answer ((a0 ++ (⟨#[10]⟩ : ByteArray)) ++ a1) true).2 = 0 := rfl
    have es : (answer ((a0 ++ (⟨#[10]⟩ : ByteArray)) ++ a1) true).1 = (answer a0 true).1 ++ (answer a1 true).1 := by
      show (lexGo [] false _).map bsOf = (lexGo [] false _).map bsOf ++ (lexGo [] false _).map bsOf
      rw [two_list, lexGo_nl _ _ _ _ (fun _ => rfl), List.map_append]
    simp only [e0, e1, if_pos]
    rw [es] at l2
    rw [e2, es]
    generalize (answer a0 true).1 = X at l0 l2 ⊢
    generalize (answer a1 true).1 = Y at l1 l2 ⊢
    refine Ev.step (f := fun k => (sleuthlaw0_SameTexts.f k (X ++ Y) (X ++ Y)).bind fun t218 => some t218) (fun k => ?_) (Ev.bind (sameTexts_ev _ (by omega)) (Ev.now _))
    have g1 : ([] : List ByteArray).length + X.length < 8796093022208 := by rw [List.length_nil]; omega
    have g2 : ([] ++ X : List ByteArray).length + Y.length < 8796093022208 := by rw [List.nil_append]; omega
    rw [sleuthlaw4_LexTwo.j0, if_neg (by decide)]
    simp only [Option.bind_some, if_pos g1, if_pos g2, List.nil_append]
    rw [if_pos (show X.length + Y.length < 8796093022208 by omega)]
end Go.Proofs.YtljlmkbcichlpaaDoor.G
