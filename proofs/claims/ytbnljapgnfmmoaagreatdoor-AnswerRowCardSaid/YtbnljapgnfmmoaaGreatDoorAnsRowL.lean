/- The law AnswerRow of package answer, as a plain statement about what the program and the document compute. -/
import Derived.Test.YtbnljapgnfmmoaaGreatDoorU11
import Derived.Test.YtbnljapgnfmmoaaGreatDoorG42
namespace Go.Proofs.YtbnljapgnfmmoaaGreatDoor.G
open Go.RowKit Go.Proofs.YtbnljapgnfmmoaaGreatDoorW.PrintWords Go.Proofs.YtbnljapgnfmmoaaGreatDoorW.PrintLast Go.Proofs.YtbnljapgnfmmoaaGreatDoorW.PrintMore
set_option linter.unusedVariables false
set_option linter.unusedSimpArgs false
theorem sess_take {ns : List Nd} {w : Int} {zs : List An} (n : Nat) (h : sessS ns w zs = true) : sessS ns w (zs.take n) = true := by
  unfold sessS at h ⊢
  by_cases d : (mayT ns && wayB w) = true
  · rw [if_pos d] at h ⊢; exact goS_take zs _ n h
  · rw [if_neg d] at h; cases h
theorem row_l1 (ns : List Nd) (hok : okN ns) (w : Int) (K : Nat) (hK : K ≤ 20) : ∀ (n i : Nat) (zs : List An), i + n = K → zs.length = n → sessS ns w zs = true → Ev (fun k => sleuthlaw22_AnswerRow.l1 k (K : Int) (i : Int) ns w [] ns w zs) true := by
  intro n
  induction n with
  | zero =>
    intro i zs hi hz hS
    obtain rfl := List.length_eq_zero_iff.1 hz
    refine Ev.step (f := fun k => (sleuthlaw0_SameSession.f k ns w [] ns w []).bind fun t473 => (if t473 = true then ((sleuthlaw22_some.f).bind fun t474 => (some ((t474.length : Int) == 5))) else (none))) (fun k => by rw [sleuthlaw22_AnswerRow.l1, if_neg (by omega)]) ?_
    refine Ev.bind (sameSession_ev ns hok w [] (Nat.zero_le _)) ?_
    simp only [if_pos, ansSome_eq, Option.bind_some]
    exact Ev.now _
  | succ n ih =>
    intro i zs hi hz hS
    have hlt : (i : Int) < (K : Int) := by omega
    have hw1 : wrap64 ((K : Int) - 1) = ((K - 1 : Nat) : Int) := by rw [w64 (by omega) (by omega)]; omega
    have hw2 : wrap64 (((K - 1 : Nat) : Int) - (i : Int)) = (n : Int) := by rw [w64 (by omega) (by omega)]; omega
    have hw3 : wrap64 ((i : Int) + 1) = ((i + 1 : Nat) : Int) := by rw [w64 (by omega) (by omega)]; omega
    have hu := undo_ev ns hok w zs (by omega)
    have e : undoF ns w zs = (ns, w, zs.take n, 0) := by
      unfold undoF
      rw [if_pos hS, if_neg (by omega), hz, Nat.add_sub_cancel]
    rw [e] at hu
    have hl : (zs.take n).length = n := by rw [List.length_take]; omega
    have hl' : ((zs.take n).length : Int) = (n : Int) := by rw [hl]
    refine Ev.step (f := fun k => (answer_Undo.f k ns w zs).bind fun bt477 => ((sleuthlaw0_Num.f bt477.2.2.2).bind fun t486 => (if t486 = 0 then (if (bt477.2.2.1.length : Int) = (n : Int) then (sleuthlaw22_AnswerRow.l1 k (K : Int) ((i + 1 : Nat) : Int) ns w [] bt477.1 bt477.2.1 bt477.2.2.1) else (none)) else (none)))) (fun k => by rw [sleuthlaw22_AnswerRow.l1, if_pos hlt, hw1, hw2, hw3]) ?_
    refine Ev.bind hu ?_
    simp only [sleuthlaw0_Num.f, Option.bind_some, if_pos, hl']
    exact ih (i + 1) _ (by omega) hl (sess_take n hS)
theorem row_j2 (ns : List Nd) (hok : okN ns) (w : Int) (zs : List An) (i : Nat) (hi : i ≤ 20) (hz : zs.length = i) (hS : sessS ns w zs = true) : Ev (fun k => sleuthlaw22_AnswerRow.j2 k (i : Int) ns w [] ns w zs) true := by
  refine Ev.step (f := fun k => sleuthlaw22_AnswerRow.l1 k (i : Int) ((0 : Nat) : Int) ns w [] ns w zs) (fun k => by rw [sleuthlaw22_AnswerRow.j2]; rfl) ?_
  exact row_l1 ns hok w i hi i 0 zs (Nat.zero_add _) hz hS
theorem row_l0 (ns : List Nd) (hok : okN ns) (ms : List Int) (w : Int) : ∀ (n i : Nat) (zs : List An), i + n = 20 → sessS ns w zs = true → zs.length = i → Ev (fun k => sleuthlaw22_AnswerRow.l0 k ms (i : Int) (i : Int) ns w [] ns w zs) true := by
  intro n
  induction n with
  | zero =>
    intro i zs hi hS hz
    have hj : Ev (fun k => sleuthlaw22_AnswerRow.j1 k ms (i : Int) (i : Int) false ns w [] ns w zs) true := by
      refine Ev.step (fun k => ?_) (row_j2 ns hok w zs i (by omega) hz hS)
      rw [sleuthlaw22_AnswerRow.j1, if_neg Bool.false_ne_true]
    by_cases c : (i : Int) < (ms.length : Int)
    · refine Ev.step (fun k => ?_) hj
      rw [sleuthlaw22_AnswerRow.l0, if_pos c, decide_eq_false (show ¬ (i : Int) < 20 by omega)]
    · refine Ev.step (fun k => ?_) hj
      rw [sleuthlaw22_AnswerRow.l0, if_neg c]
  | succ n ih =>
    intro i zs hi hS hz
    by_cases c : (i : Int) < (ms.length : Int)
    · obtain ⟨b, hb, hbe⟩ := pick3e (rd ms (i : Int))
      have hi0 : (0 : Int) ≤ (i : Int) := by omega
      have hlen := mayT_len (sess_spec hS).1
      have hw : wrap64 ((i : Int) + 1) = ((i + 1 : Nat) : Int) := by rw [w64 (by omega) (by omega)]; omega
      refine Ev.step (f := fun k => sleuthlaw22_AnswerRow.j1 k ms (i : Int) (i : Int) true ns w [] ns w zs) (fun k => by rw [sleuthlaw22_AnswerRow.l0, if_pos c, decide_eq_true (show (i : Int) < 20 by omega)]) ?_
      refine Ev.step (f := fun k => (answer_Put.f k ns w zs b).bind fun bt463 => ((sleuthlaw0_Num.f bt463.2.2.2).bind fun t472 => (if t472 = 0 then (sleuthlaw22_AnswerRow.l0 k ms ((i + 1 : Nat) : Int) ((i + 1 : Nat) : Int) ns w [] bt463.1 bt463.2.1 bt463.2.2.1) else (sleuthlaw22_AnswerRow.j2 k (i : Int) ns w [] ns w zs)))) (fun k => by rw [sleuthlaw22_AnswerRow.j1, if_pos rfl, if_pos hi0, if_pos c, hbe, hw]) ?_
      refine Ev.bind (put_ev ns hok w zs (by omega) b) ?_
      by_cases d : (askW w ns (lastM' ns zs)).1 = 0
      · have e : putF ns w zs b = (ns, w, zs ++ [⟨(askW w ns (lastM' ns zs)).2, b⟩], 0) := by
          unfold putF
          rw [if_pos hS, if_pos hb, if_pos d]
        have hs := sess_put hS d hb
        rw [e]
        generalize (⟨(askW w ns (lastM' ns zs)).2, b⟩ : An) = x at hs ⊢
        have hl : (zs ++ [x]).length = i + 1 := by rw [List.length_append, hz]; rfl
        simp only [sleuthlaw0_Num.f, Option.bind_some, if_pos]
        exact ih (i + 1) _ (by omega) hs hl
      · have e : putF ns w zs b = ([], 0, [], 2201) := by
          unfold putF
          rw [if_pos hS, if_pos hb, if_neg d]
        rw [e]
        have g : ¬ (2201 : Int) = 0 := by decide
        simp only [sleuthlaw0_Num.f, Option.bind_some, if_neg g]
        exact row_j2 ns hok w zs i (by omega) hz hS
    · refine Ev.step (f := fun k => sleuthlaw22_AnswerRow.j1 k ms (i : Int) (i : Int) false ns w [] ns w zs) (fun k => by rw [sleuthlaw22_AnswerRow.l0, if_neg c]) ?_
      refine Ev.step (fun k => ?_) (row_j2 ns hok w zs i (by omega) hz hS)
      rw [sleuthlaw22_AnswerRow.j1, if_neg Bool.false_ne_true]
theorem answerRow_pure (l0 : List Nd) (a1 : Int) (l2 : List Int) (h0 : fineN l0) (h1 : (Lit.int .i64 a1).wf = true) (h2 : fineI l2) : ∃ k, sleuthlaw22_AnswerRow.f k l0 a1 l2 = some true := by
  refine Ev.rounds (g := fun k => sleuthlaw22_AnswerRow.f k l0 a1 l2) ?_
  have hok := h0.ok
  unfold sleuthlaw22_AnswerRow.f
  refine Ev.bind ansAwake_ev ?_
  obtain ⟨d, hd, hw⟩ := way1 a1
  simp only [if_pos, hd]
  cases hm : mayT l0 with
  | false =>
    refine Ev.bind (refNew_no l0 hok (d : Int) hm) ?_
    have g : ¬ (2100 : Int) = 0 := by decide
    simp only [if_neg g]
    have ht := refTrail_ev l0 hok
    rw [hm] at ht
    exact Ev.bind ht (Ev.now _)
  | true =>
    refine Ev.bind (refNew_yes l0 hok (d : Int) hm hw) ?_
    simp only [if_pos]
    exact row_l0 l0 hok l2 (d : Int) 20 0 [] rfl (sess_new hm hw) rfl
end Go.Proofs.YtbnljapgnfmmoaaGreatDoor.G
