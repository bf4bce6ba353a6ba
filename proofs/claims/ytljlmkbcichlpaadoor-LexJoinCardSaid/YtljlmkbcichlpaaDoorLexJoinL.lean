/- The law LexJoin, as a plain statement about what the program computes. -/
import Derived.Test.YtljlmkbcichlpaaDoorLexFormsL
import Derived.Test.YtljlmkbcichlpaaDoorG8
namespace Go.Proofs.YtljlmkbcichlpaaDoor.G
open Go.RowKit Go.Proofs.YtljlmkbcichlpaaDoorW.PrintWords Go.Proofs.YtljlmkbcichlpaaDoorW.PrintLast Go.Proofs.YtljlmkbcichlpaaDoorW.PrintMore
set_option linter.unusedVariables false
set_option linter.unusedSimpArgs false
def wordsJ : List ByteArray := [(⟨#[40]⟩ : ByteArray), (⟨#[41]⟩ : ByteArray), (⟨#[100, 101, 102]⟩ : ByteArray), (⟨#[102, 48]⟩ : ByteArray), (⟨#[36, 49]⟩ : ByteArray), (⟨#[45, 55]⟩ : ByteArray), (⟨#[64, 51]⟩ : ByteArray), (⟨#[43]⟩ : ByteArray)]
def gapsJ : List ByteArray := [(⟨#[32]⟩ : ByteArray), (⟨#[10]⟩ : ByteArray), (⟨#[32, 32, 10, 32]⟩ : ByteArray), (⟨#[32, 35, 32, 110, 111, 32, 40, 32, 41, 10]⟩ : ByteArray), (⟨#[35, 10]⟩ : ByteArray), (⟨#[10, 35, 120, 35, 121, 10, 10]⟩ : ByteArray)]
theorem gap_step (g : ByteArray) (hg : g ∈ gapsJ) (w r : List UInt8) : lexGo w false (g.data.toList ++ r) = flushL w ++ lexGo [] false r := by
  unfold gapsJ at hg
  simp only [List.mem_cons, List.not_mem_nil, or_false] at hg
  rcases hg with rfl | rfl | rfl | rfl | rfl | rfl <;> rfl
theorem word_step (x g : ByteArray) (hx : x ∈ wordsJ) (hg : g ∈ gapsJ) (r : List UInt8) : lexGo [] false (x.data.toList ++ (g.data.toList ++ r)) = x.data.toList :: lexGo [] false r := by
  unfold wordsJ at hx
  simp only [List.mem_cons, List.not_mem_nil, or_false] at hx
  have hb : ∀ b : UInt8, b = 40 ∨ b = 41 → lexGo [] false ([b] ++ (g.data.toList ++ r)) = [b] :: lexGo [] false r := fun b hb => by
    have h1 : ¬ (b = 10 ∨ b = 32) := by rcases hb with rfl | rfl <;> decide
    have h2 : hitB b = true := by rcases hb with rfl | rfl <;> decide
    show lexGo [] false (b :: (g.data.toList ++ r)) = _
    rw [lexGo_f, if_neg h1, if_pos h2, gap_step g hg]
    rfl
  have hw : ∀ w : List UInt8, w ≠ [] → lexGo [] false (w ++ (g.data.toList ++ r)) = lexGo w false (g.data.toList ++ r) → lexGo [] false (w ++ (g.data.toList ++ r)) = w :: lexGo [] false r := fun w hn e => by
    rw [e, gap_step g hg]
    unfold flushL
    rw [if_neg (by rw [List.isEmpty_iff]; exact hn)]
    rfl
  rcases hx with rfl | rfl | rfl | rfl | rfl | rfl | rfl | rfl
  · exact hb 40 (Or.inl rfl)
  · exact hb 41 (Or.inr rfl)
  · exact hw [100, 101, 102] (by decide) rfl
  · exact hw [102, 48] (by decide) rfl
  · exact hw [36, 49] (by decide) rfl
  · exact hw [45, 55] (by decide) rfl
  · exact hw [64, 51] (by decide) rfl
  · exact hw [43] (by decide) rfl
theorem words_fine : ∀ x ∈ wordsJ, x.size ≤ 3 ∧ x.data.toList.all okL = true := by
  intro x hx
  unfold wordsJ at hx
  simp only [List.mem_cons, List.not_mem_nil, or_false] at hx
  rcases hx with rfl | rfl | rfl | rfl | rfl | rfl | rfl | rfl <;> decide
theorem gaps_fine : ∀ x ∈ gapsJ, x.size ≤ 10 ∧ x.data.toList.all okL = true := by
  intro x hx
  unfold gapsJ at hx
  simp only [List.mem_cons, List.not_mem_nil, or_false] at hx
  rcases hx with rfl | rfl | rfl | rfl | rfl | rfl <;> decide
theorem rdS_mem (l : List ByteArray) (v : Int) (h0 : 0 ≤ v) (h1 : v < (l.length : Int)) : rdOf ByteArray.empty l v ∈ l := by
  obtain ⟨n, rfl⟩ : ∃ n : Nat, v = n := ⟨v.toNat, by omega⟩
  rw [rdS_get l n (by omega)]
  exact List.getElem_mem _
theorem sixth (a : Int) : 0 ≤ wrap64 (Int.tmod (IntKind.u64.wrap a / 8) 6) ∧ wrap64 (Int.tmod (IntKind.u64.wrap a / 8) 6) < 6 := by
  have h2 : 0 ≤ IntKind.u64.wrap a ∧ IntKind.u64.wrap a < 18446744073709551616 := by
    show 0 ≤ a % 18446744073709551616 ∧ a % 18446744073709551616 < 18446744073709551616
    omega
  generalize IntKind.u64.wrap a = y at h2
  have h3 : 0 ≤ y / 8 := by omega
  generalize y / 8 = z at h3
  rw [Int.tmod_eq_emod_of_nonneg h3, w64 (by omega) (by omega)]
  omega
structure JoinAt (i : Nat) (t : List UInt8) (want : List ByteArray) : Prop where
  read : ∀ r, lexGo [] false (t ++ r) = want.map (·.data.toList) ++ lexGo [] false r
  fine : t.all okL = true
  size : t.length ≤ 2 + 13 * i
  len : want.length = i
theorem join_end {i : Nat} {t : List UInt8} {want : List ByteArray} (h : JoinAt i t want) (hi : i ≤ 40) :
    Ev (fun k => (lex_Words.f (bsOf t)).bind fun bt => ((sleuthlaw0_Num.f bt.2).bind fun t184 => (if t184 = 0 then ((sleuthlaw0_SameTexts.f k bt.1 want).bind fun t185 => (some t185)) else (none)))) true := by
  have hok : okS (bsOf t) = true := by
    unfold okS
    rw [decide_eq_true (by rw [bsOf_size]; have := h.size; omega), Bool.true_and]
    exact h.fine
  have e : lexGo [] false (bsOf t).data.toList = want.map (·.data.toList) := by
    show lexGo [] false t = _
    have := h.read []
    rw [List.append_nil, lexGo_nil] at this
    rw [this]
    exact List.append_nil _
  have e2 : (want.map (·.data.toList)).map bsOf = want := by
    rw [List.map_map]
    conv => rhs; rw [← List.map_id want]
    exact List.map_congr_left (fun x _ => bsOf_data x)
  simp only [words_ok _ hok, e, e2, Option.bind_some, sleuthlaw0_Num.f, if_pos]
  exact Ev.bind (sameTexts_ev _ (by have := h.len; omega)) (Ev.now _)
theorem join_l0 (l : List Int) : ∀ (n i : Nat) (t : List UInt8) (want : List ByteArray), i + n = min l.length 40 → JoinAt i t want → Ev (fun k => sleuthlaw4_LexJoin.l0 k l wordsJ gapsJ (bsOf t) want (i : Int)) true
  | 0, i, t, want, hi, h => by
    refine Ev.step (f := fun k => (lex_Words.f (bsOf t)).bind fun bt => ((sleuthlaw0_Num.f bt.2).bind fun t184 => (if t184 = 0 then ((sleuthlaw0_SameTexts.f k bt.1 want).bind fun t185 => (some t185)) else (none)))) (fun k => ?_) (join_end h (by omega))
    rw [sleuthlaw4_LexJoin.l0]
    by_cases c : (i : Int) < (l.length : Int)
    · rw [if_pos c, if_neg (by omega)]
    · rw [if_neg c]
  | n + 1, i, t, want, hi, h => by
    have hi1 : i < l.length := by omega
    have hi2 : i < 40 := by omega
    have hw : wrap64 ((i : Int) + 1) = ((i + 1 : Nat) : Int) := by rw [w64 (by omega) (by omega)]; omega
    have b0 := and_range (rd l (i : Int)) 7 (by omega)
    rw [show ((7 : Nat) : Int) = 7 from rfl] at b0
    have b1 := sixth (rd l (i : Int))
    have m0 := rdS_mem wordsJ _ b0.1 (by show _ < (8 : Int); omega)
    have m1 := rdS_mem gapsJ _ b1.1 (by show _ < (6 : Int); omega)
    generalize hv : Go.bits .and .i64 (rd l (i : Int)) 7 = v at b0 m0
    generalize hu : wrap64 (Int.tmod (IntKind.u64.wrap (rd l (i : Int)) / 8) 6) = u at b1 m1
    generalize hX : rdOf ByteArray.empty wordsJ v = X at m0
    generalize hY : rdOf ByteArray.empty gapsJ u = Y at m1
    have f0 := words_fine X m0
    have f1 := gaps_fine Y m1
    have hsz := h.size
    have hlen := h.len
    have ex : (bsOf t ++ X) ++ Y = bsOf (t ++ (X.data.toList ++ Y.data.toList)) := by
      rw [← bsOf_data X, ← bsOf_data Y, bsOf_append, bsOf_append, List.append_assoc]; rfl
    have hJ : JoinAt (i + 1) (t ++ (X.data.toList ++ Y.data.toList)) (want ++ [X]) := {
      read := fun r => by
        rw [List.append_assoc, List.append_assoc, h.read, word_step X Y m0 m1, List.map_append, List.append_assoc]; rfl
      fine := by rw [List.all_append, List.all_append, h.fine, f0.2, f1.2]; rfl
      size := by
        rw [List.length_append, List.length_append, str_len, str_len]; omega
      len := by rw [List.length_append, hlen]; rfl }
    refine Ev.step (f := fun k => sleuthlaw4_LexJoin.l0 k l wordsJ gapsJ (bsOf (t ++ (X.data.toList ++ Y.data.toList))) (want ++ [X]) ((i + 1 : Nat) : Int)) (fun k => ?_) (join_l0 l n (i + 1) _ _ (by omega) hJ)
    have hs1 : (bsOf t).size = t.length := bsOf_size t
    have hs2 : (bsOf t ++ X).size = t.length + X.size := by rw [ByteArray.size_append, hs1]
    rw [sleuthlaw4_LexJoin.l0, hv, hu, hX, hY, if_pos (by omega), if_pos (by omega), if_pos (by omega), if_pos b0.1, if_pos (by show v < 8; omega), if_pos (by omega), if_pos b1.1, if_pos (by show u < 6; omega), if_pos (by omega), if_pos (by omega), hw, ex]
def fineI (l : List Int) : Prop := l.length * 8 ≤ 140737488351232 ∧ ∀ x ∈ l, (Lit.int .i64 x).wf = true
theorem lexJoin_pure (l0 : List Int) (h0 : fineI l0) : ∃ k, sleuthlaw4_LexJoin.f k l0 = some true := by
  refine Ev.rounds (g := fun k => sleuthlaw4_LexJoin.f k l0) ?_
  unfold sleuthlaw4_LexJoin.f
  refine Ev.bind awake_ev ?_
  simp only [if_pos]
  exact join_l0 l0 (min l0.length 40) 0 [10, 32] [] (Nat.zero_add _) ⟨fun r => rfl, by decide, by decide, rfl⟩
end Go.Proofs.YtljlmkbcichlpaaDoor.G
