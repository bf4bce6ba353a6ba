/- The law LexBrackets, as a plain statement about what the program computes. -/
import Derived.Test.YtljlmkbcichlpaaDoorLexWake
import Derived.Test.YtljlmkbcichlpaaDoorG10
namespace Go.Proofs.YtljlmkbcichlpaaDoor.G
open Go.RowKit Go.Proofs.YtljlmkbcichlpaaDoorW.PrintWords Go.Proofs.YtljlmkbcichlpaaDoorW.PrintLast Go.Proofs.YtljlmkbcichlpaaDoorW.PrintMore
set_option linter.unusedVariables false
set_option linter.unusedSimpArgs false
/-- a byte of a longer word -/
def inL (b : UInt8) : Bool := !(b == 10 || b == 32 || b == 35 || hitB b)
/-- a word -/
def wordL (w : List UInt8) : Prop := w ≠ [] ∧ ((∀ b ∈ w, inL b = true) ∨ ∃ b, w = [b] ∧ hitB b = true)
theorem lexGo_word : ∀ (l w : List UInt8) (m : Bool), (∀ b ∈ w, inL b = true) → ∀ x ∈ lexGo w m l, wordL x
  | [], w, m, hw, x, h => by
    rw [lexGo_nil] at h
    obtain ⟨rfl, hn⟩ := flush_mem h
    exact ⟨hn, Or.inl hw⟩
  | b :: l, w, true, hw, x, h => by
    rw [lexGo_t] at h
    split at h
    · exact lexGo_word l w false hw x h
    · exact lexGo_word l w true hw x h
  | b :: l, w, false, hw, x, h => by
    have hf : ∀ {x}, x ∈ flushL w → wordL x := fun h => by obtain ⟨rfl, hn⟩ := flush_mem h; exact ⟨hn, Or.inl hw⟩
    have h0 : ∀ c ∈ ([] : List UInt8), inL c = true := fun c hc => by cases hc
    rw [lexGo_f] at h
    split at h
    · rcases List.mem_append.1 h with h | h
      · exact hf h
      · exact lexGo_word l [] false h0 x h
    · rename_i c1
      split at h
      · rename_i hh
        rcases List.mem_append.1 h with h | h
        · exact hf h
        · rcases List.mem_cons.1 h with h | h
          · exact ⟨by rw [h]; exact List.cons_ne_nil _ _, Or.inr ⟨b, h, hh⟩⟩
          · exact lexGo_word l [] false h0 x h
      · rename_i hh
        split at h
        · rcases List.mem_append.1 h with h | h
          · exact hf h
          · exact lexGo_word l [] true h0 x h
        · rename_i c35
          refine lexGo_word l (w ++ [b]) false (fun c hc => ?_) x h
          rcases List.mem_append.1 hc with hc | hc
          · exact hw c hc
          · rw [List.mem_singleton] at hc
            rw [hc]
            unfold inL
            rw [beq_eq_false_iff_ne.2 (fun e => c1 (Or.inl e)), beq_eq_false_iff_ne.2 (fun e => c1 (Or.inr e)), beq_eq_false_iff_ne.2 c35, Bool.eq_false_iff.2 hh]
            rfl
def wordB (x : ByteArray) : Prop := wordL x.data.toList ∧ x.size ≤ 5000
theorem brackets_l1 (l : List ByteArray) (i : Nat) (hi : i < l.length) (hl : l.length ≤ 5000) (hw : wordB l[i]) (R : Bool)
    (h : Ev (fun k => sleuthlaw4_LexBrackets.l0 k l ((i + 1 : Nat) : Int)) R) : ∀ (n j : Nat), j + n = l[i].size → Ev (fun k => sleuthlaw4_LexBrackets.l1 k l (i : Int) (j : Int)) R
  | 0, j, hj => by
    have e := rdS_get l i hi
    have hwi : wrap64 ((i : Int) + 1) = ((i + 1 : Nat) : Int) := by rw [w64 (by omega) (by omega)]; omega
    refine Ev.step (f := fun k => sleuthlaw4_LexBrackets.l0 k l ((i + 1 : Nat) : Int)) (fun k => ?_) h
    rw [sleuthlaw4_LexBrackets.l1, if_pos (by omega), if_pos (by omega), e, if_neg (by omega), hwi]
  | n + 1, j, hj => by
    have e := rdS_get l i hi
    have hsz := hw.2
    have hwj : wrap64 ((j : Int) + 1) = ((j + 1 : Nat) : Int) := by rw [w64 (by omega) (by omega)]; omega
    have hjl : j < l[i].data.toList.length := by rw [str_len]; omega
    obtain ⟨b, hb⟩ : ∃ b, l[i].data.toList[j]? = some b := ⟨_, List.getElem?_eq_getElem hjl⟩
    have hbt := bt_at l[i] j b hb
    have hbm := List.mem_of_getElem? hb
    refine Ev.step (f := fun k => sleuthlaw4_LexBrackets.l1 k l (i : Int) ((j + 1 : Nat) : Int)) (fun k => ?_) (brackets_l1 l i hi hl hw R h n (j + 1) (by omega))
    rw [sleuthlaw4_LexBrackets.l1, if_pos (by omega), if_pos (by omega), e, if_pos (by omega), if_pos (by omega), hbt, hwj]
    rcases hw.1.2 with hall | ⟨c, hc, hh⟩
    · have hin := hall b hbm
      unfold inL hitB at hin
      simp only [Bool.not_eq_true', Bool.or_eq_false_iff, beq_eq_false_iff_ne] at hin
      obtain ⟨⟨⟨n10, n32⟩, n35⟩, n40, n41⟩ := hin
      rw [if_neg (toNat_ne (n := 32) n32 rfl), if_neg (toNat_ne (n := 10) n10 rfl), if_neg (toNat_ne (n := 35) n35 rfl), if_neg (toNat_ne (n := 40) n40 rfl), if_neg (toNat_ne (n := 41) n41 rfl)]
    · rw [hc, List.mem_singleton] at hbm
      have h1 : l[i].size = 1 := by rw [← str_len, hc]; rfl
      have hbb : b = 40 ∨ b = 41 := by rw [← hbm] at hh; unfold hitB at hh; rw [Bool.or_eq_true, beq_iff_eq, beq_iff_eq] at hh; exact hh
      rcases hbb with rfl | rfl
      · rw [if_neg (by decide), if_neg (by decide), if_neg (by decide), if_pos (by decide), if_neg (by omega)]
      · rw [if_neg (by decide), if_neg (by decide), if_neg (by decide), if_neg (by decide), if_pos (by decide), if_neg (by omega)]
theorem brackets_l0 (l : List ByteArray) (hl : l.length ≤ 5000) (hw : ∀ x ∈ l, wordB x) : ∀ (n i : Nat), i + n = l.length → Ev (fun k => sleuthlaw4_LexBrackets.l0 k l (i : Int)) true
  | 0, i, hi => by
    refine Ev.step (f := fun _ => some true) (fun k => ?_) (Ev.now _)
    rw [sleuthlaw4_LexBrackets.l0, if_neg (by omega)]
  | n + 1, i, hi => by
    have hil : i < l.length := by omega
    have hwi := hw l[i] (List.getElem_mem hil)
    refine Ev.step (f := fun k => sleuthlaw4_LexBrackets.l1 k l (i : Int) ((0 : Nat) : Int)) (fun k => ?_) (brackets_l1 l i hil hl hwi true (brackets_l0 l hl hw n (i + 1) (by omega)) l[i].size 0 (by omega))
    rw [sleuthlaw4_LexBrackets.l0, if_pos (by omega), if_pos (by omega), rdS_get l i hil, if_neg (by rw [Lib.toList_data]; exact hwi.1.1)]
    rfl
theorem lexBrackets_pure (a0 : ByteArray) (h0 : a0.size ≤ 140737488351232) : ∃ k, sleuthlaw4_LexBrackets.f k a0 = some true := by
  refine Ev.rounds (g := fun k => sleuthlaw4_LexBrackets.f k a0) ?_
  have hl := answer_len a0
  have hz := answer_size a0
  unfold sleuthlaw4_LexBrackets.f
  refine Ev.bind awake_ev ?_
  simp only [words_answer, Option.bind_some, sleuthlaw0_Num.f, if_pos]
  cases h : okS a0 with
  | false =>
    have e2 : (answer a0 false).2 = 400 := rfl
    have e1 : (answer a0 false).1 = [] := rfl
    rw [e2, e1]
    exact Ev.now _
  | true =>
    rw [h] at hl hz
    have e2 : (answer a0 true).2 = 0 := rfl
    simp only [e2, if_pos]
    refine brackets_l0 _ hl (fun x hx => ⟨?_, hz x hx⟩) _ 0 (Nat.zero_add _)
    have hx' : x ∈ (lexGo [] false a0.data.toList).map bsOf := hx
    obtain ⟨y, hy, rfl⟩ := List.mem_map.1 hx'
    exact lexGo_word _ [] false (fun c hc => by cases hc) y hy
end Go.Proofs.YtljlmkbcichlpaaDoor.G
