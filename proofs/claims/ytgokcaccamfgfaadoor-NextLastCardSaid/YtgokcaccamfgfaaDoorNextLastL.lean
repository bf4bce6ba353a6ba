/- The law NextLast of package next, as a plain statement about what the program and the document compute. -/
import Derived.Test.YtgokcaccamfgfaaDoorNextWake
import Derived.Test.YtgokcaccamfgfaaDoorU12
import Derived.Test.YtgokcaccamfgfaaDoorG39
namespace Go.Proofs.YtgokcaccamfgfaaDoor.G
open Go.RowKit Go.Proofs.YtgokcaccamfgfaaDoorW.PrintWords Go.Proofs.YtgokcaccamfgfaaDoorW.PrintLast Go.Proofs.YtgokcaccamfgfaaDoorW.PrintMore
set_option linter.unusedVariables false
set_option linter.unusedSimpArgs false
theorem goA_snoc : ∀ (zs : List An) (m0 m1 : List Int) (a : An), goA zs m0 = some m1 → 0 ≤ a.f0 → a.f0 < (m1.length : Int) → markB a.f1 = true → goA (zs ++ [a]) m0 = some (m1.set a.f0.toNat a.f1)
  | [], m0, m1, a, h, h0, h1, h2 => by
    obtain rfl := Option.some.inj h
    rw [List.nil_append, goA, decide_eq_true h0, decide_eq_true h1, h2, Bool.and_self, Bool.and_self, if_pos rfl]; rfl
  | z :: zs, m0, m1, a, h, h0, h1, h2 => by
    rw [goA] at h
    rw [List.cons_append, goA]
    by_cases c : ((decide (0 ≤ z.f0) && decide (z.f0 < (m0.length : Int))) && markB z.f1) = true
    · rw [if_pos c] at h ⊢
      exact goA_snoc zs _ m1 a h h0 h1 h2
    · rw [if_neg c] at h; cases h
theorem refTop_ev {ns : List Nd} {ms : List Int} (hok : okN ns) (hl : ms.length ≤ 9223372036854775806) (h : marksS ns ms = true) : Ev (fun k => sleuthref12_Top.f k ns ms) ((askT ns ms).1, (askT ns ms).2, 0) := by
  unfold sleuthref12_Top.f
  have h1 := refMarks_ev ns hok ms hl
  rw [h] at h1
  refine Ev.bind h1 ?_
  simp only [if_pos]
  exact Ev.bind (topDown_ev h) (Ev.now _)
theorem nextSome_ok : okN nextSome := ⟨by decide, by
  intro x hx
  have h : (nextSome.all fun x => decide (x.f2.length ≤ 8796093021952)) = true := by kernel_rfl
  exact of_decide_eq_true (List.all_eq_true.1 h x hx)⟩
theorem last_j1 (m : List Int) (zs : List An) (hz : zs.length ≤ 40) (hg : goA zs (List.replicate nextSome.length 0) = some m) : Ev (fun k => sleuthlaw20_NextLast.j1 k m nextSome 0 zs) true := by
  have e : marksF nextSome zs = (m, 0) := by
    unfold marksF
    rw [nextSome_may, decide_eq_true (show zs.length ≤ 512 by omega), Bool.and_self, if_pos rfl, hg]; rfl
  have h0 : (marksF nextSome zs).2 = 0 := by rw [e]
  obtain ⟨hm, _, _⟩ := marksF_ok h0
  have hml := marksF_len nextSome zs
  rw [e] at hm hml
  have hml' : m.length ≤ 512 := hml
  have hm' : marksS nextSome m = true := hm
  have e2 : stepF nextSome 0 zs = ((askT nextSome m).1, (askT nextSome m).2, 0) := by
    unfold stepF
    rw [e, if_pos rfl, if_pos (show wayB 0 = true from rfl)]
    unfold askW
    rw [if_neg (show ¬ (0 : Int) = 1 by decide)]
  refine Ev.step (f := fun k => (next_Marks.f k nextSome 0 zs).bind fun bt424 => ((next_Step.f k nextSome 0 zs).bind fun bt428 => ((sleuthlaw20_some.f).bind fun t432 => ((sleuthref12_Top.f k t432 m).bind fun bt435 => ((sleuthlaw0_Num.f bt424.2).bind fun t439 => (if t439 = 0 then ((sleuthlaw0_SameInts.f k bt424.1 m).bind fun t440 => (if t440 = true then ((sleuthlaw0_Num.f bt428.2.2).bind fun t441 => (if t441 = 0 then (if bt435.2.2 = 0 then (some (bt428.1 == bt435.1 && (bt428.2.1 == bt435.2.1))) else (none)) else (none))) else (none))) else (none))))))) (fun k => by rw [sleuthlaw20_NextLast.j1]) ?_
  have h1 := marks_ev nextSome 0 zs
  have h2 := step_ev nextSome 0 zs
  rw [e] at h1
  rw [e2] at h2
  refine Ev.bind h1 (Ev.bind h2 ?_)
  simp only [nextSome_eq, Option.bind_some]
  refine Ev.bind (refTop_ev nextSome_ok (by omega) hm') ?_
  simp only [sleuthlaw0_Num.f, Option.bind_some, if_pos]
  refine Ev.bind (sameInts_ev m (by omega)) ?_
  simp only [if_pos, BEq.rfl, Bool.and_self]
  exact Ev.now _
theorem last_pick (r : Int) : ∃ a b : Nat, a < 5 ∧ markB (1 + (b : Int)) = true ∧ wrap64 (Int.tmod (IntKind.u64.wrap r) 5) = (a : Int) ∧ wrap64 (1 + (wrap64 (Int.tmod (IntKind.u64.wrap (Int.tdiv (IntKind.u64.wrap r) 5)) 3))) = 1 + (b : Int) := by
  obtain ⟨_, a, ha, hae⟩ := umod r 5 (by decide) (by decide)
  obtain ⟨_, b, hb, hbe⟩ := umod (Int.tdiv (IntKind.u64.wrap r) 5) 3 (by decide) (by decide)
  have hmk : markB (1 + (b : Int)) = true := by
    unfold markB
    rw [decide_eq_true (show 1 ≤ 1 + (b : Int) by clear hae hbe; omega), decide_eq_true (show 1 + (b : Int) ≤ 3 by clear hae hbe; omega)]; rfl
  refine ⟨a, b, ha, hmk, hae, ?_⟩
  have e : wrap64 (Int.tmod (IntKind.u64.wrap (Int.tdiv (IntKind.u64.wrap r) 5)) 3) = (b : Int) := hbe
  rw [e]
  clear e hbe hae hmk
  exact w64 (by omega) (by omega)
theorem last_l0 (rows : List Int) (hr : rows.length ≤ 9223372036854775806) : ∀ (n i : Nat) (m : List Int) (zs : List An), i + n = 40 → zs.length = i → m.length = 5 → goA zs (List.replicate nextSome.length 0) = some m → Ev (fun k => sleuthlaw20_NextLast.l0 k rows m (i : Int) nextSome 0 zs) true := by
  intro n
  induction n with
  | zero =>
    intro i m zs hi hz hm hg
    refine Ev.step (fun k => ?_) (last_j1 m zs (by omega) hg)
    rw [sleuthlaw20_NextLast.l0]
    by_cases c : (i : Int) < (rows.length : Int)
    · rw [if_pos c, if_neg (by omega)]
    · rw [if_neg c]
  | succ n ih =>
    intro i m zs hi hz hm hg
    by_cases c : (i : Int) < (rows.length : Int)
    · have h40 : (i : Int) < 40 := by omega
      have hi0 : (0 : Int) ≤ (i : Int) := by omega
      have hzl : zs.length < 8796093022208 := by omega
      have hin : i + 1 + n = 40 := by omega
      have hw : wrap64 ((i : Int) + 1) = ((i + 1 : Nat) : Int) := by rw [w64 (by omega) (by omega)]; omega
      have key := last_pick (rd rows (i : Int))
      obtain ⟨a, b, ha, hb, hae', hbe'⟩ := key
      have ha0 : (0 : Int) ≤ (a : Int) := Int.natCast_nonneg a
      have ha1 : (a : Int) < (m.length : Int) := by rw [hm]; exact Int.ofNat_lt.2 ha
      have hgo := goA_snoc zs _ m ⟨(a : Int), 1 + (b : Int)⟩ hg ha0 ha1 hb
      refine Ev.step (fun k => ?_) (ih (i + 1) _ _ hin (by rw [List.length_append, hz]; rfl) (by rw [List.length_set]; exact hm) hgo)
      rw [sleuthlaw20_NextLast.l0, if_pos c, if_pos h40, if_pos hi0, if_pos hzl, hae', hbe', if_pos ha0, if_pos ha1, hw]
    · refine Ev.step (fun k => ?_) (last_j1 m zs (by omega) hg)
      rw [sleuthlaw20_NextLast.l0, if_neg c]
theorem nextLast_pure (l0 : List Int) (h : fineI l0) : ∃ k, sleuthlaw20_NextLast.f k l0 = some true := by
  refine Ev.rounds (g := fun k => sleuthlaw20_NextLast.f k l0) ?_
  unfold sleuthlaw20_NextLast.f
  refine Ev.bind nextAwake_ev ?_
  have g : 5 ≤ 35184372088832 := by decide
  simp only [if_pos, nextSome_eq, Option.bind_some, if_pos g]
  exact last_l0 l0 (by have := h.1; omega) 40 0 (List.replicate 5 0) [] (by decide) rfl rfl rfl
end Go.Proofs.YtgokcaccamfgfaaDoor.G
