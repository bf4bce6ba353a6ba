/- The law AnswerBack of package answer, as a plain statement about what the program and the document compute. -/
import Derived.Test.YtbnljapgnfmmoaaGreatDoorU13
import Derived.Test.YtbnljapgnfmmoaaGreatDoorG53
namespace Go.Proofs.YtbnljapgnfmmoaaGreatDoor.G
open Go.RowKit Go.Proofs.YtbnljapgnfmmoaaGreatDoorW.PrintWords Go.Proofs.YtbnljapgnfmmoaaGreatDoorW.PrintLast Go.Proofs.YtbnljapgnfmmoaaGreatDoorW.PrintMore
set_option linter.unusedVariables false
set_option linter.unusedSimpArgs false
theorem pick3 (r : Int) : ∃ b : Int, markB b = true ∧ wrap64 (1 + (wrap64 (Int.tmod (IntKind.u64.wrap r) 3))) = b := by
  obtain ⟨_, b, hb, hbe⟩ := umod r 3 (by decide) (by decide)
  have e : wrap64 (Int.tmod (IntKind.u64.wrap r) 3) = (b : Int) := hbe
  refine ⟨1 + (b : Int), ?_, ?_⟩
  · unfold markB
    rw [decide_eq_true (show 1 ≤ 1 + (b : Int) by clear e hbe; omega), decide_eq_true (show 1 + (b : Int) ≤ 3 by clear e hbe; omega)]; rfl
  · rw [e]
    clear e hbe
    exact w64 (by omega) (by omega)
theorem answerBack_pure (l0 : List Nd) (a1 : Int) (l2 : List An) (a3 : Int) (h : fineN l0 ∧ (Lit.int .i64 a1).wf = true ∧ fineA l2) (h3 : (Lit.int .i64 a3).wf = true) : ∃ k, sleuthlaw22_AnswerBack.f k l0 a1 l2 a3 = some true := by
  refine Ev.rounds (g := fun k => sleuthlaw22_AnswerBack.f k l0 a1 l2 a3) ?_
  have hok := h.1.ok
  have hz := h.2.2.1
  have hz' : l2.length ≤ 9223372036854775806 := by omega
  obtain ⟨b, hb, hbe⟩ := pick3 a3
  unfold sleuthlaw22_AnswerBack.f
  refine Ev.bind ansAwake_ev ?_
  simp only [if_pos, hbe]
  refine Ev.bind (put_ev l0 hok a1 l2 hz' b) ?_
  by_cases c : sessS l0 a1 l2 = true ∧ (askW a1 l0 (lastM' l0 l2)).1 = 0
  · have e : putF l0 a1 l2 b = (l0, a1, l2 ++ [⟨(askW a1 l0 (lastM' l0 l2)).2, b⟩], 0) := by
      unfold putF
      rw [if_pos c.1, if_pos hb, if_pos c.2]
    rw [e]
    have hs := sess_put c.1 c.2 hb
    generalize (⟨(askW a1 l0 (lastM' l0 l2)).2, b⟩ : An) = x at hs ⊢
    have hl : (l2 ++ [x]).length = l2.length + 1 := by rw [List.length_append]; rfl
    have hw : wrap64 ((l2.length : Int) + 1) = ((l2 ++ [x]).length : Int) := by rw [hl, w64 (by omega) (by omega)]; omega
    simp only [sleuthlaw0_Num.f, Option.bind_some, if_pos]
    have hz2 : (l2 ++ [x]).length ≤ 9223372036854775806 := by omega
    refine Ev.bind (undo_ev l0 hok a1 (l2 ++ [x]) hz2) ?_
    have e2 : undoF l0 a1 (l2 ++ [x]) = (l0, a1, l2, 0) := by
      unfold undoF
      rw [if_pos hs, if_neg (by omega), hl, Nat.add_sub_cancel, List.take_left]
    rw [e2]
    simp only [if_pos]
    refine Ev.bind (sameSession_ev l0 hok a1 l2 hz') ?_
    simp only [if_pos, hw]
    refine Ev.bind (refSMay_ev l0 hok a1 (l2 ++ [x]) hz2) ?_
    rw [hs]
    exact Ev.now _
  · have e : ∃ n : Int, n ≠ 0 ∧ putF l0 a1 l2 b = ([], 0, [], n) := by
      unfold putF
      by_cases d : sessS l0 a1 l2 = true
      · rw [if_pos d, if_pos hb, if_neg (fun hh => c ⟨d, hh⟩)]
        exact ⟨2201, by decide, rfl⟩
      · rw [if_neg d]; exact ⟨2200, by decide, rfl⟩
    obtain ⟨n, hn, e⟩ := e
    rw [e]
    simp only [sleuthlaw0_Num.f, Option.bind_some, if_neg hn]
    exact Ev.bind (sameSession_ev [] ansNil_ok 0 [] (Nat.zero_le _)) (Ev.now _)
end Go.Proofs.YtbnljapgnfmmoaaGreatDoor.G
