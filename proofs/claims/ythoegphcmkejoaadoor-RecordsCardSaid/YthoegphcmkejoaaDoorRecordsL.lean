/- The law Records of package record, as a plain statement about what the program computes. -/
import Derived.Test.YthoegphcmkejoaaDoorU9
import Derived.Test.YthoegphcmkejoaaDoorRecRef
import Derived.Test.YthoegphcmkejoaaDoorG29
namespace Go.Proofs.YthoegphcmkejoaaDoor.G
open Go.RowKit Go.Proofs.YthoegphcmkejoaaDoorW.PrintWords Go.Proofs.YthoegphcmkejoaaDoorW.PrintLast Go.Proofs.YthoegphcmkejoaaDoorW.PrintMore
set_option linter.unusedVariables false
set_option linter.unusedSimpArgs false
theorem spoilTexts_l0 : ∀ (n i : Nat) (l : List ByteArray), i + n = l.length → l.length ≤ 9223372036854775806 → (∀ j s, i ≤ j → l[j]? = some s → s.size ≤ 9223372036854775806) → ∃ r, Ev (fun k => sleuthlaw0_SpoilTexts.l0 k l (i : Int)) r
  | 0, i, l, h, _, _ => ⟨l, Ev.step (f := fun _ => some l) (fun k => by rw [sleuthlaw0_SpoilTexts.l0, if_neg (by omega)]) (Ev.now _)⟩
  | n + 1, i, l, h, hl, hs => by
    have hi : i < l.length := by omega
    have e : rdOf ByteArray.empty l (i : Int) = l[i] := by unfold rdOf; rw [Int.toNat_natCast, List.getD_eq_getElem?_getD, List.getElem?_eq_getElem hi]; rfl
    have hw : wrap64 ((i : Int) + 1) = ((i + 1 : Nat) : Int) := by rw [w64 (by omega) (by omega)]; omega
    obtain ⟨r, h1⟩ := spoilTexts_l0 n (i + 1) (l.set i ((⟨#[126]⟩ : ByteArray) ++ l[i])) (by rw [List.length_set]; omega) (by rw [List.length_set]; exact hl) (fun j s hj hjs => hs j s (by omega) (by rw [List.getElem?_set_ne (by omega)] at hjs; exact hjs))
    have hz := hs i _ (Nat.le_refl _) (List.getElem?_eq_getElem hi)
    have c1 : 1 + (l[i]).size ≤ 9223372036854775807 := by omega
    have c2 : (i : Int) < (l.length : Int) := by omega
    have c3 : 0 ≤ (i : Int) := by omega
    refine ⟨r, Ev.step (f := fun k => sleuthlaw0_SpoilTexts.l0 k (l.set i ((⟨#[126]⟩ : ByteArray) ++ l[i])) ((i + 1 : Nat) : Int)) (fun k => ?_) h1⟩
    rw [sleuthlaw0_SpoilTexts.l0, if_pos c2, if_pos c3, e, if_pos c1, Int.toNat_natCast, hw]
theorem spoilTexts_ev (l : List ByteArray) (hl : l.length ≤ 9223372036854775806) (hs : ∀ s ∈ l, s.size ≤ 9223372036854775806) : ∃ r, Ev (fun k => sleuthlaw0_SpoilTexts.f k l) r := by
  obtain ⟨r, h⟩ := spoilTexts_l0 l.length 0 l (by omega) hl (fun j s _ h => hs s (List.mem_of_getElem? h))
  exact ⟨r, h⟩
theorem getR_cases (s : ByteArray) : (∃ x, recS x = true ∧ recOf x = s ∧ getR s = (x, 0)) ∨ getR s = (⟨0, 0, [], ⟨#[]⟩⟩, 1500) := by
  by_cases c : recS (getP (bytesOf s)) = true ∧ recOf (getP (bytesOf s)) = s
  · exact .inl ⟨_, c.1, c.2, by unfold getR; rw [if_pos c]⟩
  · exact .inr (by unfold getR; rw [if_neg c])
theorem getR_small (s : ByteArray) : (-9223372036854775808 ≤ (getR s).1.f1 ∧ (getR s).1.f1 ≤ 9223372036854775807) ∧ (getR s).1.f2.length ≤ 9223372036854775806 ∧ ∀ t ∈ (getR s).1.f2, t.size ≤ 9223372036854775806 := by
  rcases getR_cases s with ⟨x, h1, h2, h3⟩ | h
  · rw [h3]
    have a := recS_spec h1
    have b := eqS_spec a.1
    refine ⟨⟨by show _ ≤ x.f1; omega, by show x.f1 ≤ _; omega⟩, by show x.f2.length ≤ _; omega, fun t ht => ?_⟩
    have := mayS_size (b.2.2.2.1 t ht)
    omega
  · rw [h]
    exact ⟨by decide, by decide, fun t ht => by cases ht⟩
theorem putR_cases (x : Nd) : (recS x = true ∧ putR x = (recOf x, 0)) ∨ putR x = (⟨#[]⟩, 1500) := by
  unfold putR
  by_cases c : recS x = true
  · exact .inl ⟨c, if_pos c⟩
  · exact .inr (if_neg c)
theorem records_pure (a0 a1 : Int) (l2 : List ByteArray) (a3 : ByteArray) (s : ByteArray) (h : fine1 ⟨a0, a1, l2, a3⟩) (hs : s.size ≤ 140737488351232) : ∃ k, sleuthlaw15_Records.f k a0 a1 l2 a3 s = some true := by
  refine Ev.rounds (g := fun k => sleuthlaw15_Records.f k a0 a1 l2 a3 s) ?_
  obtain ⟨_, h1, h2, _⟩ := h
  have h1 := wf_i64 h1
  have hl2 : l2.length ≤ 9223372036854775806 := by have := h2.1; simp only at this; omega
  unfold sleuthlaw15_Records.f
  refine Ev.bind (copy_ev [(⟨a0, a1, l2, a3⟩ : Nd)] ⟨by rw [List.length_singleton]; decide, fun x hx => by rw [List.mem_singleton] at hx; subst hx; have := h2.1; simp only at this ⊢; omega⟩) ?_
  have hlt : 0 < (([(⟨a0, a1, l2, a3⟩ : Nd)].length : Nat) : Int) := by rw [List.length_singleton]; decide
  simp only [if_pos hlt]
  refine Ev.bind (putRec_ev ⟨a0, a1, l2, a3⟩ h1.1 h1.2) ?_
  refine Ev.bind (refPutRec_ev ⟨a0, a1, l2, a3⟩ (Nat.le_trans hl2 (by decide)) h1.1 h1.2) ?_
  refine Ev.bind (getRec_ev s) ?_
  refine Ev.bind (refGetRec_ev s) ?_
  refine Ev.bind (getRec_ev (putR ⟨a0, a1, l2, a3⟩).1) ?_
  have hg := getR_small s
  refine Ev.bind (putRec_ev (getR s).1 hg.1.1 hg.1.2) ?_
  simp only [if_pos, sleuthlaw0_Num.f, Option.bind_some]
  refine Ev.bind (sameNode_ev (getR s).1 hg.2.1) ?_
  simp only [if_pos]
  obtain ⟨r, hr⟩ := spoilTexts_ev (getR s).1.f2 hg.2.1 hg.2.2
  have hend : Ev (fun k => (sleuthlaw0_SpoilTexts.f k (getR s).1.f2).bind fun _ => (sleuthlaw0_SameNode.f k a0 a1 l2 a3 a0 a1 l2 a3).bind fun t8 => if t8 = true then sleuthlaw15_awake.f k else none) true := by
    refine Ev.bind hr ?_
    refine Ev.bind (sameNode_ev ⟨a0, a1, l2, a3⟩ hl2) ?_
    simp only [if_pos]
    exact awakeRec_ev
  have w2 : Ev (fun _ => (if (flatR (getR s)).2.2.2.2 = 0 then if (putR (getR s).1).1.toList = s.toList then if (putR (getR s).1).2 = 0 then some () else none else none else some () : Option Unit)) () := by
    rcases getR_cases s with ⟨x, c1, c2, c3⟩ | c
    · have e : putR x = (s, 0) := by unfold putR; rw [if_pos c1, c2]
      rw [c3]
      simp only [flatR, e, if_pos]
      exact Ev.now _
    · rw [c]
      exact Ev.now _
  have w1 : Ev (fun k => (if (putR ⟨a0, a1, l2, a3⟩).2 = 0 then (sleuthlaw0_SameNode.f k (flatR (getR (putR ⟨a0, a1, l2, a3⟩).1)).1 (flatR (getR (putR ⟨a0, a1, l2, a3⟩).1)).2.1 (flatR (getR (putR ⟨a0, a1, l2, a3⟩).1)).2.2.1 (flatR (getR (putR ⟨a0, a1, l2, a3⟩).1)).2.2.2.1 a0 a1 l2 a3).bind fun t5 => if t5 = true then if (flatR (getR (putR ⟨a0, a1, l2, a3⟩).1)).2.2.2.2 = 0 then some () else none else none else some () : Option Unit)) () := by
    rcases putR_cases ⟨a0, a1, l2, a3⟩ with ⟨c1, c2⟩ | c
    · rw [c2]
      simp only [getR_of c1 rfl, flatR, if_pos]
      refine Ev.bind (sameNode_ev ⟨a0, a1, l2, a3⟩ hl2) ?_
      simp only [if_pos]
      exact Ev.now _
    · rw [c]
      exact Ev.now _
  refine Ev.bind w1 ?_
  refine Ev.bind w2 ?_
  exact hend
end Go.Proofs.YthoegphcmkejoaaDoor.G
