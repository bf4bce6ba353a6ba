/- The law NextForms of package next, as a plain statement about what the program computes. -/
import Derived.Test.YtgokcaccamfgfaaDoorU7
import Derived.Test.YtgokcaccamfgfaaDoorG30
namespace Go.Proofs.YtgokcaccamfgfaaDoor.G
open Go.RowKit Go.Proofs.YtgokcaccamfgfaaDoorW.PrintWords Go.Proofs.YtgokcaccamfgfaaDoorW.PrintLast Go.Proofs.YtgokcaccamfgfaaDoorW.PrintMore
set_option linter.unusedVariables false
set_option linter.unusedSimpArgs false
theorem stepF_bad {ns : List Nd} {zs : List An} (w : Int) (h : marksF ns zs = ([], 2000)) : stepF ns w zs = (0, 0, 2000) := by
  unfold stepF
  rw [h, if_neg (by decide)]
theorem nf_end {ns : List Nd} {zs : List An} (h : marksF ns zs = ([], 2000)) : Ev (fun k => sleuthlaw20_NextForms.j1 k false ns 0 zs) true := by
  refine Ev.step (fun k => rfl) ?_
  simp only [sleuthlaw20_NextForms.j1, if_neg Bool.false_ne_true]
  refine Ev.bind (marks_ev ns 0 zs) ?_
  rw [h]
  refine Ev.bind (step_ev ns 0 zs) ?_
  rw [stepF_bad 0 h, if_pos (show (([] : List Int).length : Int) = 0 from rfl)]
  simp only [sleuthlaw0_Num.f, Option.bind_some, if_pos, BEq.rfl, Bool.and_self]
  exact Ev.now _
theorem nf_way {w : Int} (h : wayB w = false) : Ev (fun k => sleuthlaw20_NextForms.j1 k true nextSome w [⟨0, 2⟩, ⟨1, 1⟩]) true := by
  refine Ev.step (fun k => rfl) ?_
  simp only [sleuthlaw20_NextForms.j1, if_pos]
  have e1 : marksF nextSome [⟨0, 2⟩, ⟨1, 1⟩] = ([2, 1, 0, 0, 0], 0) := by kernel_rfl
  have e2 : stepF nextSome w [⟨0, 2⟩, ⟨1, 1⟩] = (0, 0, 2000) := by
    unfold stepF
    rw [e1, if_pos rfl, h, if_neg Bool.false_ne_true]
  refine Ev.bind (marks_ev nextSome w _) ?_
  rw [e1]
  refine Ev.bind (step_ev nextSome w _) ?_
  rw [e2]
  simp only [sleuthlaw0_Num.f, Option.bind_some, if_pos]
  rw [if_pos (show (([2, 1, 0, 0, 0] : List Int).length : Int) = 5 from rfl)]
  simp only [if_pos, BEq.rfl, Bool.and_self]
  exact Ev.now _
theorem nf_bad2 (x v : Int) (h : x < 0 ∨ 5 ≤ x ∨ markB v = false) : marksF nextSome [⟨0, 2⟩, ⟨x, v⟩] = ([], 2000) := by
  unfold marksF
  rw [nextSome_may, show (true && decide (([⟨0, 2⟩, ⟨x, v⟩] : List An).length ≤ 512)) = true from rfl, if_pos rfl]
  show resA (goA [⟨0, 2⟩, ⟨x, v⟩] [0, 0, 0, 0, 0]) = _
  rw [goA, if_pos (by decide)]
  show resA (goA [⟨x, v⟩] [2, 0, 0, 0, 0]) = _
  rw [goA, if_neg (by
    rw [Bool.and_eq_true, Bool.and_eq_true, decide_eq_true_iff, decide_eq_true_iff]
    show ¬ ((0 ≤ x ∧ x < 5) ∧ markB v = true)
    rintro ⟨⟨h1, h2⟩, h3⟩
    rcases h with h | h | h
    · omega
    · omega
    · rw [h] at h3; cases h3)]
  rfl
theorem nf_many {ns : List Nd} {zs : List An} (h : 512 < zs.length) : marksF ns zs = ([], 2000) := by
  unfold marksF
  rw [decide_eq_false (by omega), Bool.and_false, if_neg Bool.false_ne_true]
theorem nf_l0 (ns : List Nd) : ∀ (n i : Nat) (zs : List An), i + n = zs.length → 512 < zs.length → zs.length ≤ 4611686018427387904 → Ev (fun k => sleuthlaw20_NextForms.l0 k false (i : Int) ns 0 zs) true := by
  intro n
  induction n with
  | zero =>
    intro i zs h1 h2 h3
    refine Ev.step (f := fun k => sleuthlaw20_NextForms.j1 k false ns 0 zs) (fun k => ?_) (nf_end (nf_many h2))
    rw [sleuthlaw20_NextForms.l0, if_neg (by omega)]
  | succ n ih =>
    intro i zs h1 h2 h3
    have hw : wrap64 ((i : Int) + 1) = ((i + 1 : Nat) : Int) := w64 (by omega) (by omega)
    have hs : ∀ a : An, (zs.set i a).length = zs.length := fun a => List.length_set
    refine Ev.step (f := fun k => sleuthlaw20_NextForms.l0 k false ((i + 1 : Nat) : Int) ns 0 (zs.set i (⟨(rd_T26 zs (i : Int)).f0, 1⟩ : An))) (fun k => ?_) (ih (i + 1) _ (by rw [hs]; omega) (by rw [hs]; omega) (by rw [hs]; omega))
    rw [sleuthlaw20_NextForms.l0, if_pos (by omega), if_pos (by omega), hw, Int.toNat_natCast]
theorem rd2_0 (a b : Int) : rd [a, b] ((0 : Nat) : Int) = a := rfl
theorem rd2_1 (a b : Int) : rd [a, b] ((1 : Nat) : Int) = b := rfl
theorem nf_wraps (d : Nat) (h : d ≤ 1023) : wrap64 (1 + (d : Int)) = 1 + (d : Int) ∧ wrap64 (-(1 + (d : Int))) = -(1 + (d : Int)) ∧ wrap64 (1 + (1 + (d : Int))) = 1 + (1 + (d : Int)) ∧ wrap64 (4 + (1 + (d : Int))) = 4 + (1 + (d : Int)) ∧ wrap64 (1 - (1 + (d : Int))) = 1 - (1 + (d : Int)) ∧ wrap64 (3 + (1 + (d : Int))) = 3 + (1 + (d : Int)) ∧ wrap64 (512 + (1 + (d : Int))) = 512 + (1 + (d : Int)) := ⟨w64 (by omega) (by omega), w64 (by omega) (by omega), w64 (by omega) (by omega), w64 (by omega) (by omega), w64 (by omega) (by omega), w64 (by omega) (by omega), w64 (by omega) (by omega)⟩
set_option maxHeartbeats 2000000 in
theorem nextForms_pure (a0 a1 : Int) (h0 : (Lit.int .i64 a0).wf = true) (h1 : (Lit.int .i64 a1).wf = true) : ∃ k, sleuthlaw20_NextForms.f k a0 a1 = some true := by
  refine Ev.rounds (g := fun k => sleuthlaw20_NextForms.f k a0 a1) ?_
  unfold sleuthlaw20_NextForms.f
  refine Ev.bind nextAwake_ev ?_
  simp only [if_pos, nextSome_eq, Option.bind_some]
  obtain ⟨d, hd0, hd⟩ := bits_nat a1 1023 (by decide)
  obtain ⟨e, he0, he⟩ := bits_nat a0 1 (by decide)
  have hd' : Go.bits .and .i64 a1 1023 = (d : Int) := hd
  have he' : Go.bits .and .i64 a0 1 = (e : Int) := he
  obtain ⟨w1, w2, w3, w4, w5, w6, w7⟩ := nf_wraps d hd0
  simp only [hd', he', w1, w2, w3, w4, w5, w6, w7]
  clear w1 w2 w3 w4 w5 w6 w7 hd he hd' he'
  generalize Int.tmod (IntKind.u64.wrap a0) 9 = q
  have l2 : (1 : Int) < (([⟨0, 2⟩, ⟨1, 1⟩] : List An).length : Int) := by decide
  by_cases c0 : q = 0
  · simp only [if_pos c0]
    exact nf_end (by kernel_rfl)
  simp only [if_neg c0]
  by_cases c1 : q = 1
  · have g : (1 : Int) < (nextSome.length : Int) := by decide
    simp only [if_pos c1, if_pos g]
    exact nf_end (by kernel_rfl)
  simp only [if_neg c1]
  by_cases c2 : q = 2
  · have g1 : 0 ≤ 512 + (1 + (d : Int)) := by omega
    have g2 : (512 + (1 + (d : Int))).toNat ≤ 17592186044416 := by omega
    simp only [if_pos c2, if_pos g1, if_pos g2]
    have hl : ∀ z : An, (List.replicate (512 + (1 + (d : Int))).toNat z).length = 513 + d := fun z => by rw [List.length_replicate]; omega
    exact nf_l0 nextSome (513 + d) 0 _ (by rw [hl]; omega) (by rw [hl]; omega) (by rw [hl]; omega)
  simp only [if_neg c2]
  by_cases c3 : q = 3
  · simp only [if_pos c3, if_pos l2]
    exact nf_end (nf_bad2 (-(1 + (d : Int))) 1 (.inl (by omega)))
  simp only [if_neg c3]
  by_cases c4 : q = 4
  · simp only [if_pos c4, if_pos l2]
    exact nf_end (nf_bad2 (4 + (1 + (d : Int))) 1 (.inr (.inl (by omega))))
  simp only [if_neg c4]
  by_cases c5 : q = 5
  · simp only [if_pos c5, if_pos l2]
    exact nf_end (nf_bad2 1 (1 - (1 + (d : Int))) (.inr (.inr (by unfold markB; rw [decide_eq_false (by omega)]; rfl))))
  simp only [if_neg c5]
  by_cases c6 : q = 6
  · simp only [if_pos c6, if_pos l2]
    exact nf_end (nf_bad2 1 (3 + (1 + (d : Int))) (.inr (.inr (by unfold markB; rw [decide_eq_false (show ¬ 3 + (1 + (d : Int)) ≤ 3 by omega), Bool.and_false]))))
  simp only [if_neg c6]
  have he2 : e = 0 ∨ e = 1 := by omega
  have g0 : 0 ≤ (e : Int) := by omega
  have g1 : (e : Int) < (([-(1 + (d : Int)), 1 + (1 + (d : Int))] : List Int).length : Int) := by show (e : Int) < 2; omega
  simp only [if_pos g0, if_pos g1]
  rcases he2 with rfl | rfl
  · rw [rd2_0]; exact nf_way (w := -(1 + (d : Int))) (by unfold wayB; rw [beq_eq_false_iff_ne.2 (by omega), beq_eq_false_iff_ne.2 (by omega)]; rfl)
  · rw [rd2_1]; exact nf_way (w := 1 + (1 + (d : Int))) (by unfold wayB; rw [beq_eq_false_iff_ne.2 (by omega), beq_eq_false_iff_ne.2 (by omega)]; rfl)
end Go.Proofs.YtgokcaccamfgfaaDoor.G
