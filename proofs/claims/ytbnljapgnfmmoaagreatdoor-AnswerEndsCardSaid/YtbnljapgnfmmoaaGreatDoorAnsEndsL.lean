/- The law AnswerEnds of package answer, as a plain statement about what the program and the document compute. -/
import Derived.Test.YtbnljapgnfmmoaaGreatDoorU11
import Derived.Test.YtbnljapgnfmmoaaGreatDoorG41
namespace Go.Proofs.YtbnljapgnfmmoaaGreatDoor.G
open Go.RowKit Go.Proofs.YtbnljapgnfmmoaaGreatDoorW.PrintWords Go.Proofs.YtbnljapgnfmmoaaGreatDoorW.PrintLast Go.Proofs.YtbnljapgnfmmoaaGreatDoorW.PrintMore
set_option linter.unusedVariables false
set_option linter.unusedSimpArgs false
theorem ends_j1 (ns : List Nd) (hok : okN ns) (ms : List Int) (w : Int) (i : Nat) (zs : List An) (hS : sessS ns w zs = true) (hz : zs.length = i) (hi : i ≤ ns.length) (b : Int) (hb : markB b = true)
    (hnext : ∀ z2 : List An, sessS ns w z2 = true → z2.length = i + 1 → i + 1 ≤ ns.length → Ev (fun k => sleuthlaw22_AnswerEnds.l0 k ns ms ((i + 1 : Nat) : Int) ns w z2) true) : Ev (fun k => sleuthlaw22_AnswerEnds.j1 k ns ms (i : Int) b ns w zs) true := by
  have hlen := mayT_len (sess_spec hS).1
  have hw : wrap64 ((i : Int) + 1) = ((i + 1 : Nat) : Int) := by rw [w64 (by omega) (by omega)]; omega
  refine Ev.step (f := fun k => (answer_Put.f k ns w zs b).bind fun bt721 => ((sleuthlaw0_Num.f bt721.2.2.2).bind fun t730 => (if t730 = 2201 then (some true) else (if t730 = 0 then (sleuthlaw22_AnswerEnds.l0 k ns ms ((i + 1 : Nat) : Int) bt721.1 bt721.2.1 bt721.2.2.1) else (none))))) (fun k => by rw [sleuthlaw22_AnswerEnds.j1, hw]) ?_
  refine Ev.bind (put_ev ns hok w zs (by omega) b) ?_
  by_cases c : (askW w ns (lastM' ns zs)).1 = 0
  · have e : putF ns w zs b = (ns, w, zs ++ [⟨(askW w ns (lastM' ns zs)).2, b⟩], 0) := by
      unfold putF
      rw [if_pos hS, if_pos hb, if_pos c]
    have hs := sess_put hS c hb
    rw [e]
    generalize (⟨(askW w ns (lastM' ns zs)).2, b⟩ : An) = x at hs ⊢
    have hl : (zs ++ [x]).length = i + 1 := by rw [List.length_append, hz]; rfl
    have hmax := (sess_spec hs).2.2.2.1
    have g : ¬ (0 : Int) = 2201 := by decide
    simp only [sleuthlaw0_Num.f, Option.bind_some, if_neg g, if_pos]
    exact hnext _ hs hl (by omega)
  · have e : putF ns w zs b = ([], 0, [], 2201) := by
      unfold putF
      rw [if_pos hS, if_pos hb, if_neg c]
    rw [e]
    simp only [sleuthlaw0_Num.f, Option.bind_some, if_pos]
    exact Ev.now _
theorem ends_l0 (ns : List Nd) (hok : okN ns) (ms : List Int) (w : Int) : ∀ (n i : Nat) (zs : List An), i + n = ns.length → sessS ns w zs = true → zs.length = i → Ev (fun k => sleuthlaw22_AnswerEnds.l0 k ns ms (i : Int) ns w zs) true := by
  intro n
  induction n with
  | zero =>
    intro i zs hi hS hz
    have hle : (i : Int) ≤ (ns.length : Int) := by omega
    have hi0 : (0 : Int) ≤ (i : Int) := by omega
    have go := fun b hb => ends_j1 ns hok ms w i zs hS hz (by omega) b hb (fun z2 _ h2 h3 => by omega)
    by_cases c : (i : Int) < (ms.length : Int)
    · obtain ⟨b, hb, hbe⟩ := pick3e (rd ms (i : Int))
      refine Ev.step (fun k => ?_) (go b hb)
      rw [sleuthlaw22_AnswerEnds.l0, if_pos hle, if_pos c, if_pos hi0, hbe]
    · refine Ev.step (fun k => ?_) (go 2 rfl)
      rw [sleuthlaw22_AnswerEnds.l0, if_pos hle, if_neg c]
  | succ n ih =>
    intro i zs hi hS hz
    have hle : (i : Int) ≤ (ns.length : Int) := by omega
    have hi0 : (0 : Int) ≤ (i : Int) := by omega
    have go := fun b hb => ends_j1 ns hok ms w i zs hS hz (by omega) b hb (fun z2 h1 h2 h3 => ih (i + 1) z2 (by omega) h1 h2)
    by_cases c : (i : Int) < (ms.length : Int)
    · obtain ⟨b, hb, hbe⟩ := pick3e (rd ms (i : Int))
      refine Ev.step (fun k => ?_) (go b hb)
      rw [sleuthlaw22_AnswerEnds.l0, if_pos hle, if_pos c, if_pos hi0, hbe]
    · refine Ev.step (fun k => ?_) (go 2 rfl)
      rw [sleuthlaw22_AnswerEnds.l0, if_pos hle, if_neg c]
theorem answerEnds_pure (l0 : List Nd) (a1 : Int) (l2 : List Int) (h0 : fineN l0) (h1 : (Lit.int .i64 a1).wf = true) (h2 : fineI l2) : ∃ k, sleuthlaw22_AnswerEnds.f k l0 a1 l2 = some true := by
  refine Ev.rounds (g := fun k => sleuthlaw22_AnswerEnds.f k l0 a1 l2) ?_
  have hok := h0.ok
  unfold sleuthlaw22_AnswerEnds.f
  refine Ev.bind ansAwake_ev ?_
  obtain ⟨d, hd0, hd⟩ := bits_nat a1 1 (by decide)
  have hd' : Go.bits .and .i64 a1 1 = (d : Int) := hd
  have hw : wayB (d : Int) = true := by
    unfold wayB
    rw [Bool.or_eq_true, beq_iff_eq, beq_iff_eq]
    omega
  simp only [if_pos, hd']
  cases hm : mayT l0 with
  | false =>
    have hn : Ev (fun k => sleuthref12_NewSession.f k l0 (d : Int)) ([], 0, [], 2100) := by
      unfold sleuthref12_NewSession.f
      have ht := refTrail_ev l0 hok
      rw [hm] at ht
      refine Ev.bind ht ?_
      simp only [if_neg Bool.false_ne_true]
      exact Ev.now _
    refine Ev.bind hn ?_
    have g : ¬ (2100 : Int) = 0 := by decide
    simp only [if_neg g]
    have ht := refTrail_ev l0 hok
    rw [hm] at ht
    exact Ev.bind ht (Ev.now _)
  | true =>
    have hn : Ev (fun k => sleuthref12_NewSession.f k l0 (d : Int)) (l0, (d : Int), [], 0) := by
      unfold sleuthref12_NewSession.f
      have ht := refTrail_ev l0 hok
      rw [hm] at ht
      refine Ev.bind ht ?_
      simp only [if_pos, wayR_eq, Option.bind_some, hw]
      exact Ev.bind (refCopy_ev l0 hok) (Ev.now _)
    refine Ev.bind hn ?_
    simp only [if_pos]
    refine ends_l0 l0 hok l2 (d : Int) l0.length 0 [] (Nat.zero_add _) ?_ rfl
    unfold sessS
    rw [hm, hw, Bool.and_self, if_pos rfl]
    rfl
end Go.Proofs.YtbnljapgnfmmoaaGreatDoor.G
