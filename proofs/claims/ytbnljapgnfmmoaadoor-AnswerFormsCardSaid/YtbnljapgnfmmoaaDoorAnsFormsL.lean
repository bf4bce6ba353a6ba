/- The law AnswerForms of package answer, as a plain statement about what the program computes. -/
import Derived.Test.YtbnljapgnfmmoaaDoorU11
import Derived.Test.YtbnljapgnfmmoaaDoorG35
namespace Go.Proofs.YtbnljapgnfmmoaaDoor.G
open Go.RowKit Go.Proofs.YtbnljapgnfmmoaaDoorW.PrintWords Go.Proofs.YtbnljapgnfmmoaaDoorW.PrintLast Go.Proofs.YtbnljapgnfmmoaaDoorW.PrintMore
set_option linter.unusedVariables false
set_option linter.unusedSimpArgs false
theorem forms_pick (a0 a1 : Int) : ∃ v : Int, markB v = false ∧ 0 ≤ Go.bits .and .i64 a0 1 ∧ Go.bits .and .i64 a0 1 < 2 ∧ rd [wrap64 (1 - (wrap64 (1 + (Go.bits .and .i64 a1 1023)))), wrap64 (3 + (wrap64 (1 + (Go.bits .and .i64 a1 1023))))] (Go.bits .and .i64 a0 1) = v := by
  obtain ⟨d, hd0, hd⟩ := bits_nat a1 1023 (by decide)
  have hd' : Go.bits .and .i64 a1 1023 = (d : Int) := hd
  obtain ⟨i, hi0, hi⟩ := bits_nat a0 1 (by decide)
  have hi' : Go.bits .and .i64 a0 1 = (i : Int) := hi
  have w1 : wrap64 (1 + (d : Int)) = 1 + (d : Int) := w64 (by omega) (by omega)
  have w5 : wrap64 (1 - (1 + (d : Int))) = 1 - (1 + (d : Int)) := w64 (by omega) (by omega)
  have w6 : wrap64 (3 + (1 + (d : Int))) = 3 + (1 + (d : Int)) := w64 (by omega) (by omega)
  rw [hd', hi', w1, w5, w6]
  clear w1 w5 w6 hd hd' hi hi'
  rcases Nat.eq_zero_or_pos i with c | c
  · subst c
    refine ⟨1 - (1 + (d : Int)), ?_, by decide, by decide, rfl⟩
    unfold markB
    rw [decide_eq_false (by omega)]; rfl
  · obtain rfl : i = 1 := by omega
    refine ⟨3 + (1 + (d : Int)), ?_, by decide, by decide, rfl⟩
    unfold markB
    rw [decide_eq_false (show ¬ 3 + (1 + (d : Int)) ≤ 3 by omega), Bool.and_false]
theorem answerForms_pure (a0 a1 : Int) (h0 : (Lit.int .i64 a0).wf = true) (h1 : (Lit.int .i64 a1).wf = true) : ∃ k, sleuthlaw22_AnswerForms.f k a0 a1 = some true := by
  refine Ev.rounds (g := fun k => sleuthlaw22_AnswerForms.f k a0 a1) ?_
  unfold sleuthlaw22_AnswerForms.f
  refine Ev.bind ansAwake_ev ?_
  obtain ⟨v, hv, hb0, hb1, hr⟩ := forms_pick a0 a1
  have hb1' : Go.bits .and .i64 a0 1 < (([wrap64 (1 - (wrap64 (1 + (Go.bits .and .i64 a1 1023)))), wrap64 (3 + (wrap64 (1 + (Go.bits .and .i64 a1 1023))))] : List Int).length : Int) := hb1
  simp only [if_pos, ansSome_eq, Option.bind_some, if_pos hb0, if_pos hb1', hr]
  have s0 : sessS ansSome 0 [] = true := by kernel_rfl
  have s1 : sessS ansSome 0 [⟨0, 1⟩] = true := by kernel_rfl
  have s2 : sessS ansSome 0 [⟨1, 1⟩] = false := by kernel_rfl
  have p1 := put_ev ansSome ansSome_ok 0 [] (Nat.zero_le _) v
  have p2 := put_ev ansSome ansSome_ok 0 [⟨0, 1⟩] (by decide) 2
  have p3 := put_ev ansSome ansSome_ok 0 [⟨0, 1⟩] (by decide) v
  have p4 := put_ev ansSome ansSome_ok 0 [⟨1, 1⟩] (by decide) 2
  have p5 := undo_ev ansSome ansSome_ok 0 [⟨1, 1⟩] (by decide)
  have p6 := undo_ev ansSome ansSome_ok 0 [] (Nat.zero_le _)
  have p7 := undo_ev ansSome ansSome_ok 0 [⟨0, 1⟩] (by decide)
  have e1 : putF ansSome 0 [] v = ([], 0, [], 2200) := by unfold putF; rw [s0, if_pos rfl, hv, if_neg Bool.false_ne_true]
  have e2 : putF ansSome 0 [⟨0, 1⟩] 2 = ([], 0, [], 2201) := by kernel_rfl
  have e3 : putF ansSome 0 [⟨0, 1⟩] v = ([], 0, [], 2200) := by unfold putF; rw [s1, if_pos rfl, hv, if_neg Bool.false_ne_true]
  have e4 : putF ansSome 0 [⟨1, 1⟩] 2 = ([], 0, [], 2200) := by unfold putF; rw [s2, if_neg Bool.false_ne_true]
  have e5 : undoF ansSome 0 [⟨1, 1⟩] = ([], 0, [], 2200) := by kernel_rfl
  have e6 : undoF ansSome 0 [] = ([], 0, [], 2201) := by kernel_rfl
  have e7 : undoF ansSome 0 [⟨0, 1⟩] = (ansSome, 0, [], 0) := by kernel_rfl
  rw [e1] at p1
  rw [e2] at p2
  rw [e3] at p3
  rw [e4] at p4
  rw [e5] at p5
  rw [e6] at p6
  rw [e7] at p7
  refine Ev.bind p1 (Ev.bind p2 (Ev.bind p3 (Ev.bind p4 (Ev.bind p5 (Ev.bind p6 (Ev.bind p7 ?_))))))
  simp only [if_pos, sleuthlaw0_Num.f, Option.bind_some]
  refine Ev.bind (sameSession_ev ansSome ansSome_ok 0 [] (Nat.zero_le _)) ?_
  simp only [if_pos, BEq.rfl]
  exact Ev.now _
end Go.Proofs.YtbnljapgnfmmoaaDoor.G
