/- The law NextAsks of package next, as a plain statement about what the program and the document compute. -/
import Derived.Test.YtgokcaccamfgfaaGreatDoorU15
import Derived.Test.YtgokcaccamfgfaaGreatDoorG46
namespace Go.Proofs.YtgokcaccamfgfaaGreatDoor.G
open Go.RowKit Go.Proofs.YtgokcaccamfgfaaGreatDoorW.PrintWords Go.Proofs.YtgokcaccamfgfaaGreatDoorW.PrintLast Go.Proofs.YtgokcaccamfgfaaGreatDoorW.PrintMore
set_option linter.unusedVariables false
set_option linter.unusedSimpArgs false
theorem nextAsks_l0 (ns : List Nd) (w : Int) (zs : List An) (hok : okN ns) (hz : zs.length ≤ 9223372036854775806) (H : Aside0 ((stepF ns w zs).2.2 = 0)) (c b : Int) (hb0 : 0 ≤ b) (hb1 : b < (ns.length : Int)) (hne : c = 0 → ∀ i : Nat, i < zs.length → ¬ (rd_T46 zs (i : Int)).f0 = b) : ∀ n i : Nat, i + n = zs.length → Ev (fun k => sleuthlaw20_NextAsks.l0 k (i : Int) ns w zs c b) true := by
  intro n
  induction n with
  | zero =>
    intro i hi
    have hlt : ¬ (i : Int) < (zs.length : Int) := by omega
    refine Ev.step (f := fun k => (sleuthref12_Step.f k ns w zs).bind fun bt513 => (if bt513.2.2 = 0 then (if b ≥ 0 then (if b < (ns.length : Int) then ((sleuthlaw20_some.f).bind fun t517 => (some ((t517.length : Int) == 5))) else (none)) else (none)) else (none))) (fun k => by rw [sleuthlaw20_NextAsks.l0, if_neg hlt]) ?_
    refine Ev.bind (refStep_ev ns hok w zs) ?_
    have hb0' : b ≥ 0 := hb0
    simp only [if_pos H.out, if_pos hb0', if_pos hb1, nextSome_eq, Option.bind_some]
    exact Ev.now _
  | succ n ih =>
    intro i hi
    have hw : wrap64 ((i : Int) + 1) = ((i + 1 : Nat) : Int) := by rw [w64 (by omega) (by omega)]; omega
    have hlt : (i : Int) < (zs.length : Int) := by omega
    have hi0 : (0 : Int) ≤ (i : Int) := by omega
    refine Ev.step (fun k => ?_) (ih (i + 1) (by omega))
    rw [sleuthlaw20_NextAsks.l0, if_pos hlt, hw]
    by_cases c0 : c = 0
    · have hn := hne c0 i (by omega)
      rw [if_pos c0, if_pos hi0, if_neg hn]
    · rw [if_neg c0]
theorem nextAsks_facts (ns : List Nd) (w : Int) (zs : List An) (h : (stepF ns w zs).2.2 = 0) : 0 ≤ (stepF ns w zs).2.1 ∧ (stepF ns w zs).2.1 < (ns.length : Int) ∧ ((stepF ns w zs).1 = 0 → ∀ i : Nat, i < zs.length → ¬ (rd_T46 zs (i : Int)).f0 = (stepF ns w zs).2.1) := by
  have hs : (marksF ns zs).2 = 0 ∧ stepF ns w zs = ((askW w ns (marksF ns zs).1).1, (askW w ns (marksF ns zs).1).2, 0) := by
    unfold stepF at h ⊢
    by_cases c : (marksF ns zs).2 = 0
    · rw [if_pos c] at h ⊢
      by_cases d : wayB w = true
      · rw [if_pos d]; exact ⟨c, rfl⟩
      · rw [if_neg d] at h; exact absurd h (by decide)
    · rw [if_neg c] at h; exact absurd h (by decide)
  obtain ⟨hm, h512, hgo⟩ := marksF_ok hs.1
  have hf := askW_facts hm w
  rw [hs.2]
  refine ⟨hf.1, hf.2.1, fun c0 i hi e => ?_⟩
  have hmem : rd_T46 zs (i : Int) ∈ zs := by
    show List.getD _ _ _ ∈ _
    rw [Int.toNat_natCast, List.getD_eq_getElem?_getD, List.getElem?_eq_getElem hi]
    exact List.getElem_mem _
  exact goA_hit zs _ _ hgo _ hf.1 (.inr ⟨_, hmem, e⟩) (hf.2.2 c0)
theorem nextAsks_pure (l0 : List Nd) (a1 : Int) (l2 : List An) (h : fineN l0 ∧ (Lit.int .i64 a1).wf = true ∧ fineA l2) : ∃ k, sleuthlaw20_NextAsks.f k l0 a1 l2 = some true := by
  refine Ev.rounds (g := fun k => sleuthlaw20_NextAsks.f k l0 a1 l2) ?_
  have hok := h.1.ok
  have hz := h.2.2.1
  have hz' : l2.length ≤ 9223372036854775806 := by omega
  unfold sleuthlaw20_NextAsks.f
  refine Ev.bind nextAwake_ev ?_
  simp only [if_pos]
  refine Ev.bind (step_ev l0 a1 l2) ?_
  simp only [sleuthlaw0_Num.f, Option.bind_some]
  by_cases c : (stepF l0 a1 l2).2.2 = 0
  · simp only [if_pos c]
    have hf := nextAsks_facts l0 a1 l2 c
    exact nextAsks_l0 l0 a1 l2 hok hz' ⟨c⟩ _ _ hf.1 hf.2.1 hf.2.2 l2.length 0 (Nat.zero_add _)
  · simp only [if_neg c]
    have e : stepF l0 a1 l2 = (0, 0, 2000) := by
      unfold stepF at c ⊢
      split
      · split
        · rename_i h1 h2; rw [if_pos h1, if_pos h2] at c; exact absurd rfl c
        · rfl
      · rfl
    rw [e]
    exact Ev.now _
end Go.Proofs.YtgokcaccamfgfaaGreatDoor.G
