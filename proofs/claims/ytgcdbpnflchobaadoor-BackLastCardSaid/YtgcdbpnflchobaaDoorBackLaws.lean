/- The laws Backs, BackFalls and BackLast of package back, as plain statements about what the program and the document compute. -/
import Derived.Test.YtgcdbpnflchobaaDoorBackWake
import Derived.Test.YtgcdbpnflchobaaDoorG43
import Derived.Test.YtgcdbpnflchobaaDoorG45
import Derived.Test.YtgcdbpnflchobaaDoorG46
namespace Go.Proofs.YtgcdbpnflchobaaDoor.G
open Go.RowKit Go.Proofs.YtgcdbpnflchobaaDoorW.PrintWords Go.Proofs.YtgcdbpnflchobaaDoorW.PrintLast Go.Proofs.YtgcdbpnflchobaaDoorW.PrintMore
set_option linter.unusedVariables false
set_option linter.unusedSimpArgs false
theorem backs_pure (l0 : List Nd) (a1 : Int) (h0 : fineN l0) (h1 : (Lit.int .i64 a1).wf = true) : ∃ k, sleuthlaw24_Backs.f k l0 a1 = some true := by
  refine Ev.rounds (g := fun k => sleuthlaw24_Backs.f k l0 a1) ?_
  have hok := h0.ok
  have hlen := pathS_len l0 a1
  unfold sleuthlaw24_Backs.f
  refine Ev.bind (copy_ev l0 hok) (Ev.bind (path_ev l0 a1) (Ev.bind (refPath_ev l0 hok a1) (Ev.bind (last_ev l0) (Ev.bind (refLast_ev l0 hok) (Ev.bind (sameInts_ev _ (by omega)) ?_)))))
  simp only [if_pos, sleuthlaw0_Num.f, Option.bind_some]
  rw [show ((lastS l0).2.1 != (lastS l0).2.1) = false from by simp, show ((lastS l0).2.2 != (lastS l0).2.2) = false from by simp]
  obtain ⟨r, hr⟩ := spoil_ev (pathS l0 a1).1 (by omega)
  simp only [if_neg Bool.false_ne_true]
  refine Ev.step (f := fun k => (sleuthlaw0_SpoilInts.f k (pathS l0 a1).1).bind fun t549 => ((sleuthlaw0_SameNodes.f k l0 l0).bind fun t550 => (if t550 = true then ((sleuthlaw24_awake.f k).bind fun t551 => (some t551)) else (some false)))) (fun k => by simp only [sleuthlaw24_Backs.j0, if_neg Bool.false_ne_true]) ?_
  refine Ev.bind hr (Ev.bind (sameNodes_ev l0 hok) ?_)
  simp only [if_pos]
  exact Ev.bind backAwake_ev (Ev.now _)
theorem falls_j0 {ns : List Nd} (hm : mayT ns = true) (m : Nat) (hml : m < ns.length) : Ev (fun k => sleuthlaw24_BackFalls.j0 k ns (m : Int) (upTo' ns (ns.length + 1) (m : Int)) false) true := by
  have hlen := mayT_len hm
  have hp := mayT_pa hm m hml
  have hs := upTo'_step ns (m : Int) (by omega) ns.length
  rcases hp with ⟨e0, e1⟩ | ⟨g0, g1, g2⟩
  · subst e0
    refine Ev.step (f := fun _ => some true) (fun k => ?_) (Ev.now _)
    have e : upTo' ns (ns.length + 1) ((0 : Nat) : Int) = [0] := by
      rw [hs]
      show _ :: upTo' ns ns.length (pa ns 0) = _
      rw [e1, upTo'_none ns (-1) (by omega)]; rfl
    rw [sleuthlaw24_BackFalls.j0, e]; rfl
  · obtain ⟨b, hb⟩ : ∃ b : Nat, pa ns m = (b : Int) := ⟨(pa ns m).toNat, by omega⟩
    have hd : (upTo' ns (ns.length + 1) (m : Int)).drop 1 = upTo' ns (ns.length + 1) (b : Int) := by
      rw [hs]
      show upTo' ns ns.length (pa ns m) = _
      rw [hb, up_fuel hm ns.length (ns.length + 1) (b : Int) (by omega) (Nat.le_refl _) (by omega)]
    have hpb : pathS ns (b : Int) = (upTo' ns (ns.length + 1) (b : Int), 0) := by unfold pathS; rw [if_pos (inB_of hm (by omega) (by omega))]
    have hl1 : (1 : Int) ≤ ((upTo' ns (ns.length + 1) (m : Int)).length : Int) := by rw [hs, List.length_cons]; omega
    have hpl := pathS_len ns (b : Int)
    rw [hpb] at hpl
    refine Ev.step (f := fun k => (back_Path.f k ns (b : Int)).bind fun bt588 => ((sleuthlaw0_Num.f bt588.2).bind fun t592 => (if t592 = 0 then (if 1 ≤ ((upTo' ns (ns.length + 1) (m : Int)).length : Int) then ((sleuthlaw0_SameInts.f k bt588.1 ((upTo' ns (ns.length + 1) (m : Int)).drop 1)).bind fun t597 => (some t597)) else (none)) else (some false)))) (fun k => ?_) ?_
    · rw [sleuthlaw24_BackFalls.j0, if_neg Bool.false_ne_true, if_neg (by omega), if_pos (by omega), if_pos (by omega), ← hb]; rfl
    · refine Ev.bind (path_ev ns (b : Int)) ?_
      simp only [hpb, sleuthlaw0_Num.f, Option.bind_some, if_pos, if_pos hl1, hd]
      exact Ev.bind (sameInts_ev _ (by have h : (upTo' ns (ns.length + 1) (b : Int)).length ≤ 513 := hpl; omega)) (Ev.now _)
theorem backFalls_pure (l0 : List Nd) (a1 : Int) (h0 : fineN l0) (h1 : (Lit.int .i64 a1).wf = true) : ∃ k, sleuthlaw24_BackFalls.f k l0 a1 = some true := by
  refine Ev.rounds (g := fun k => sleuthlaw24_BackFalls.f k l0 a1) ?_
  unfold sleuthlaw24_BackFalls.f
  refine Ev.bind backAwake_ev ?_
  simp only [if_pos]
  refine Ev.bind (refTrail_ev l0 h0.ok) ?_
  cases hm : mayT l0 with
  | false => simp only [if_neg Bool.false_ne_true]; exact Ev.now _
  | true =>
    have hlen := mayT_len hm
    obtain ⟨eu, m, hml, em⟩ := umod a1 l0.length hlen.1 hlen.2
    simp only [if_pos, eu, if_neg (show ¬ (l0.length : Int) = 0 by omega), em]
    refine Ev.bind (path_ev l0 (m : Int)) ?_
    have hpb : pathS l0 (m : Int) = (upTo' l0 (l0.length + 1) (m : Int), 0) := by unfold pathS; rw [if_pos (inB_of hm (by omega) (by omega))]
    obtain ⟨l, e, hl, hz⟩ := up_facts hm l0.length (l0.length + 1) m hml (Nat.le_refl _) (by omega)
    have hj := falls_j0 hm m hml
    rw [hpb]
    rw [e] at hj ⊢
    have hw1 : wrap64 ((m : Int) + 1) = (m : Int) + 1 := w64 (by omega) (by omega)
    have hw2 : wrap64 ((((m : Int) :: l).length : Int) - 1) = (l.length : Int) := by rw [List.length_cons, w64 (by omega) (by omega)]; omega
    have g1 : ¬ (((m : Int) :: l).length : Int) = 0 := by rw [List.length_cons]; omega
    have g2 : ¬ (((m : Int) :: l).length : Int) > (m : Int) + 1 := by rw [List.length_cons]; omega
    have g3 : 0 < (((m : Int) :: l).length : Int) := by rw [List.length_cons]; omega
    have g4 : rd ((m : Int) :: l) 0 = (m : Int) := rfl
    have g5 : 0 ≤ (l.length : Int) := by omega
    have g6 : (l.length : Int) < (((m : Int) :: l).length : Int) := by rw [List.length_cons]; omega
    simp only [sleuthlaw0_Num.f, Option.bind_some, if_pos, hw1, hw2, if_neg g1, if_neg g2, if_pos g3, g4, if_pos g5, if_pos g6, hz]
    exact hj
theorem last_l0 (ns : List Nd) (hl : ns.length ≤ 512) (x3 : Int) (x4 : Bool) (hx : ∀ j : Nat, j < ns.length → noB ns j → x4 = true ∧ (j : Int) ≤ x3) : ∀ n i : Nat, i + n = ns.length → Ev (fun k => sleuthlaw24_BackLast.l0 k ns x3 x4 (i : Int)) true := by
  intro n
  induction n with
  | zero =>
    intro i hi
    refine Ev.step (f := fun _ => some true) (fun k => ?_) (Ev.now _)
    rw [sleuthlaw24_BackLast.l0, if_neg (by omega)]
  | succ n ih =>
    intro i hi
    have hw : wrap64 ((i : Int) + 1) = ((i + 1 : Nat) : Int) := by rw [w64 (by omega) (by omega)]; omega
    refine Ev.step (f := fun k => sleuthlaw24_BackLast.l0 k ns x3 x4 ((i + 1 : Nat) : Int)) (fun k => ?_) (ih (i + 1) (by omega))
    rw [sleuthlaw24_BackLast.l0, if_pos (by omega), if_pos (by omega), hw]
    by_cases c : ((rn ns (i : Int)).f3).toList = ([33] : List UInt8)
    · obtain ⟨c1, c2⟩ := hx i (by omega) c
      rw [if_pos c, if_pos c1, if_neg (by omega)]
    · rw [if_neg c]
theorem last_j0 (ns : List Nd) (hl : ns.length ≤ 512) (x3 : Int) (x4 : Bool) (hx : ∀ j : Nat, j < ns.length → noB ns j → x4 = true ∧ (j : Int) ≤ x3) : Ev (fun k => sleuthlaw24_BackLast.j0 k ns x3 x4 false) true :=
  Ev.step (f := fun k => sleuthlaw24_BackLast.l0 k ns x3 x4 0) (fun k => by rw [sleuthlaw24_BackLast.j0, if_neg Bool.false_ne_true]) (last_l0 ns hl x3 x4 hx ns.length 0 (by omega))
theorem backLast_pure (l0 : List Nd) (h0 : fineN l0) : ∃ k, sleuthlaw24_BackLast.f k l0 = some true := by
  refine Ev.rounds (g := fun k => sleuthlaw24_BackLast.f k l0) ?_
  unfold sleuthlaw24_BackLast.f
  refine Ev.bind backAwake_ev ?_
  simp only [if_pos]
  refine Ev.bind (last_ev l0) ?_
  cases hm : mayT l0 with
  | false =>
    have e : lastS l0 = (0, false, 2400) := by unfold lastS; rw [hm]; rfl
    rw [e]
    simp only [sleuthlaw0_Num.f, Option.bind_some, if_pos, if_neg Bool.false_ne_true, if_neg (show ¬ (2400 : Int) = 0 by omega)]
    refine Ev.bind (refTrail_ev l0 h0.ok) ?_
    rw [hm]
    exact Ev.now _
  | true =>
    have hlen := mayT_len hm
    rcases lastF_spec l0 l0.length with ⟨i, e0, h1, h2, h3⟩ | ⟨e0, h3⟩
    · have e : lastS l0 = ((i : Int), true, 0) := by unfold lastS; rw [hm, e0]; rfl
      rw [e]
      have g1 : ¬ (i : Int) < 0 := by omega
      have g2 : ¬ (i : Int) ≥ (l0.length : Int) := by omega
      have g3 : 0 ≤ (i : Int) := by omega
      have g4 : (i : Int) < (l0.length : Int) := by omega
      have g5 : ((rn l0 (i : Int)).f3).toList = ([33] : List UInt8) := h2
      simp only [sleuthlaw0_Num.f, Option.bind_some, if_pos, if_neg g1, if_neg g2, if_pos g3, if_pos g4, if_pos g5]
      exact last_j0 l0 hlen.2 (i : Int) true fun j h4 h5 => ⟨rfl, by
        rcases Nat.lt_or_ge i j with c | c
        · exact absurd h5 (h3 j c h4)
        · omega⟩
    · have e : lastS l0 = (0, false, 0) := by unfold lastS; rw [hm, e0]; rfl
      rw [e]
      simp only [sleuthlaw0_Num.f, Option.bind_some, if_pos, if_neg Bool.false_ne_true]
      exact last_j0 l0 hlen.2 0 false fun j h4 h5 => absurd h5 (h3 j h4)
end Go.Proofs.YtgcdbpnflchobaaDoor.G
