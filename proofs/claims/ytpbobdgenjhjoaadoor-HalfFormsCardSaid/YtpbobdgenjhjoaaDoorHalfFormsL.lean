/- The law HalfForms of package half, as a plain statement about what the program computes. -/
import Derived.Test.YtpbobdgenjhjoaaDoorHalfWake
import Derived.Test.YtpbobdgenjhjoaaDoorG26
namespace Go.Proofs.YtpbobdgenjhjoaaDoor.G
open Go.RowKit Go.Proofs.YtpbobdgenjhjoaaDoorW.PrintWords Go.Proofs.YtpbobdgenjhjoaaDoorW.PrintLast Go.Proofs.YtpbobdgenjhjoaaDoorW.PrintMore
set_option linter.unusedVariables false
set_option linter.unusedSimpArgs false
theorem badNextH {ns : List Nd} {ms : List Int} (h : marksS ns ms = false) : nextH ns ms = (0, 0, 1900) := by
  unfold nextH; rw [h, if_neg Bool.false_ne_true]
theorem odd_setH (ns : List Nd) (l : List Int) (j : Nat) (v : Int) (hj : j < l.length) (hv : oddB v = true) : marksS ns (l.set j v) = false := by
  have h : (l.set j v).any oddB = true := List.any_eq_true.2 ⟨v, List.mem_iff_getElem.2 ⟨j, by rw [List.length_set]; exact hj, List.getElem_set_self ..⟩, hv⟩
  unfold marksS
  rw [h, Bool.not_true, Bool.and_false, Bool.and_false]
theorem halfForms_end (ns : List Nd) (ms : List Int) (h : marksS ns ms = false) : Ev (fun k => (half_Next.f k ns ms).bind fun bt => (if (bt.1 == 0 && (bt.2.1 == 0)) = true then ((sleuthlaw0_Num.f bt.2.2).bind fun t => (some (t == 1900))) else (none))) true := by
  refine Ev.bind (next_half_ev ns ms) ?_
  rw [badNextH h]
  simp only [sleuthlaw0_Num.f, Option.bind_some, if_pos, BEq.rfl, Bool.and_self]
  exact Ev.now _
theorem halfForms_pure : sleuthlaw19_HalfForms.Pure := by
  intro a0 a1 _ _
  refine evRounds (g := fun k => sleuthlaw19_HalfForms.f k a0 a1) ?_
  unfold sleuthlaw19_HalfForms.f
  refine Ev.bind halfAwake_ev ?_
  obtain ⟨i, hi, ei⟩ := bits_nat a0 7 (by omega)
  obtain ⟨j, hj, ej⟩ := bits_nat a1 3 (by omega)
  obtain ⟨d, hd, ed⟩ := bits_nat a1 1023 (by omega)
  rw [show ((7 : Nat) : Int) = 7 from rfl] at ei
  rw [show ((3 : Nat) : Int) = 3 from rfl] at ej
  rw [show ((1023 : Nat) : Int) = 1023 from rfl] at ed
  have hd1 : wrap64 (1 + (d : Int)) = 1 + (d : Int) := w64 (by omega) (by omega)
  have hd2 : wrap64 (-(1 + (d : Int))) = -(1 + (d : Int)) := w64 (by omega) (by omega)
  have hd3 : wrap64 (3 + (1 + (d : Int))) = 3 + (1 + (d : Int)) := w64 (by omega) (by omega)
  have g0 : (0 : Int) < (halfSome.length : Int) := by decide
  have g1 : (2 : Int) < (halfSome.length : Int) := by decide
  have g2 : (1 : Int) ≤ (([0, 1, 2, 3, 0] : List Int).length : Int) := by decide
  have g3 : ([0, 1, 2, 3, 0] : List Int).length < 17592186044416 := by decide
  have g4 : (0 : Int) ≤ (j : Int) := by omega
  have g5 : (j : Int) < (([0, 1, 2, 3, 0] : List Int).length : Int) := by show (j : Int) < 5; omega
  have g6 : (4 : Int) ≤ (halfSome.length : Int) := by decide
  simp only [if_pos, Option.bind_some, halfSome_eq, ei, ej, ed, hd1, hd2, hd3, if_pos g0, if_pos g1, if_pos g2, if_pos g3, if_pos g4, if_pos g5, if_pos g6]
  have hc : i = 0 ∨ i = 1 ∨ i = 2 ∨ i = 3 ∨ i = 4 ∨ i = 5 ∨ i = 6 ∨ i = 7 := by omega
  have n0 : ∀ m : Int, (i : Int) ≠ m → ¬ (i : Int) = m := fun _ h => h
  by_cases c0 : (i : Int) = 0
  · simp only [if_pos c0]; exact halfForms_end _ _ (by kernel_rfl)
  · simp only [if_neg c0]
    by_cases c1 : (i : Int) = 1
    · simp only [if_pos c1]; exact halfForms_end _ _ (by kernel_rfl)
    · simp only [if_neg c1]
      by_cases c2 : (i : Int) = 2
      · simp only [if_pos c2]; exact halfForms_end _ _ (by kernel_rfl)
      · simp only [if_neg c2]
        by_cases c3 : (i : Int) = 3
        · simp only [if_pos c3]; exact halfForms_end _ _ (by kernel_rfl)
        · simp only [if_neg c3]
          by_cases c4 : (i : Int) = 4
          · simp only [if_pos c4]; exact halfForms_end _ _ (odd_setH _ _ _ _ (by rw [Int.toNat_natCast]; show j < 5; omega) (by unfold oddB; rw [decide_eq_true (by omega), Bool.true_or]))
          · simp only [if_neg c4]
            by_cases c5 : (i : Int) = 5
            · simp only [if_pos c5]; exact halfForms_end _ _ (odd_setH _ _ _ _ (by rw [Int.toNat_natCast]; show j < 5; omega) (by unfold oddB; rw [decide_eq_true (show 3 < 3 + (1 + (d : Int)) by omega), Bool.or_true]))
            · simp only [if_neg c5]
              by_cases c6 : (i : Int) = 6
              · simp only [if_pos c6]; exact halfForms_end _ _ (by kernel_rfl)
              · simp only [if_neg c6]; exact halfForms_end _ _ (by kernel_rfl)
end Go.Proofs.YtpbobdgenjhjoaaDoor.G
