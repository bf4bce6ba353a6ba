/- The law TopAsks of package top, as a plain statement about what the program and the document compute. -/
import Derived.Test.YtpbobdgenjhjoaaDoorU9
import Derived.Test.YtpbobdgenjhjoaaDoorG28
namespace Go.Proofs.YtpbobdgenjhjoaaDoor.G
open Go.RowKit Go.Proofs.YtpbobdgenjhjoaaDoorW.PrintWords Go.Proofs.YtpbobdgenjhjoaaDoorW.PrintLast Go.Proofs.YtpbobdgenjhjoaaDoorW.PrintMore
set_option linter.unusedVariables false
set_option linter.unusedSimpArgs false
theorem ask_facts {ns : List Nd} {ms : List Int} (h : marksS ns ms = true) : ∃ c b : Int, askT ns ms = (c, b) ∧ 0 ≤ b ∧ b < (ns.length : Int) ∧
    ((c = 0 ∧ rd ms b = 0 ∧ (b = 0 ∨ (0 ≤ (rn ns b).f1 ∧ (rn ns b).f1 < (ns.length : Int) ∧ rd ms (rn ns b).f1 = 2))) ∨ (c = 1 ∧ rd ms b = 2 ∧ ∀ i : Nat, i < ns.length → (rn ns (i : Int)).f1 = b → rd ms (i : Int) = 1) ∨ (c = 2 ∧ rd ms 0 = 1 ∧ b = 0) ∨ (c = 3 ∧ b = 0)) := by
  obtain ⟨hm, hl, hx⟩ := marksS_spec h
  have hlen := mayT_len hm
  unfold askT
  by_cases c0 : rd ms 0 = 0
  · rw [if_pos c0]; exact ⟨0, 0, rfl, by omega, by omega, .inl ⟨rfl, c0, .inl rfl⟩⟩
  · rw [if_neg c0]
    by_cases c1 : rd ms 0 = 1
    · rw [if_pos c1]; exact ⟨2, 0, rfl, by omega, by omega, .inr (.inr (.inl ⟨rfl, c1, rfl⟩))⟩
    · rw [if_neg c1]
      by_cases c3 : rd ms 0 = 3
      · rw [if_pos c3]; exact ⟨3, 0, rfl, by omega, by omega, .inr (.inr (.inr ⟨rfl, rfl⟩))⟩
      · rw [if_neg c3]
        have h00 := marks_at h 0 (by omega)
        rw [show ((0 : Nat) : Int) = 0 from rfl] at h00
        have hd := downT_spec (ns := ns) (ms := ms) ns.length 0 (by omega) (by omega) (by omega) (by omega)
        generalize downT ns ms ns.length 0 = b at hd
        unfold finT
        cases hf : fstK ns ms b 0 with
        | some k =>
          have hk := fstK_spec hf
          exact ⟨0, k, rfl, by omega, hk.2.1, .inl ⟨rfl, hk.2.2.2, .inr ⟨by rw [hk.2.2.1]; omega, by rw [hk.2.2.1]; omega, by rw [hk.2.2.1]; exact hd.2.2⟩⟩⟩
        | none =>
          unfold bugS
          by_cases ca : ((kidsTo ns b ns.length).all fun k => rd ms k == 1) = true
          · simp only [if_pos ca]
            refine ⟨1, b, rfl, hd.1, hd.2.1, .inr (.inl ⟨rfl, hd.2.2, fun i hi hp => ?_⟩)⟩
            have hpa := mayT_pa hm i hi
            have hp' : pa ns i = b := hp
            have hk : (i : Int) ∈ kidsTo ns b ns.length := kidsTo_in ns b i ns.length hi (by omega) hp
            have := List.all_eq_true.1 ca _ hk
            simpa using this
          · simp only [if_neg ca]
            exact ⟨3, 0, rfl, by omega, by omega, .inr (.inr (.inr ⟨rfl, rfl⟩))⟩
theorem asks_l0 {ns : List Nd} {ms : List Int} (hl : ms.length = ns.length) (h512 : ns.length ≤ 512) (b : Int) (h0 : 0 ≤ b) (h1 : b < (ns.length : Int)) (hb : rd ms b = 2) (hk : ∀ i : Nat, i < ns.length → (rn ns (i : Int)).f1 = b → rd ms (i : Int) = 1) (c : Int) : ∀ n i : Nat, i + n = ns.length → Ev (fun q => sleuthlaw18_TopAsks.l0 q ns ms (i : Int) c b) true := by
  intro n
  induction n with
  | zero =>
    intro i hi
    refine Ev.step (f := fun _ => some true) (fun q => ?_) (Ev.now _)
    rw [sleuthlaw18_TopAsks.l0, if_neg (by omega), if_pos h0, if_pos (by omega), hb]; rfl
  | succ n ih =>
    intro i hi
    have hw : wrap64 ((i : Int) + 1) = ((i + 1 : Nat) : Int) := by rw [w64 (by omega) (by omega)]; omega
    refine Ev.step (f := fun q => sleuthlaw18_TopAsks.l0 q ns ms ((i + 1 : Nat) : Int) c b) (fun q => ?_) (ih (i + 1) (by omega))
    rw [sleuthlaw18_TopAsks.l0, if_pos (by omega), if_pos (by omega), hw]
    by_cases d : (rn ns (i : Int)).f1 = b
    · rw [if_pos d, if_pos (by omega), if_pos (hk i (by omega) d)]
    · rw [if_neg d]
theorem topAsks_pure (l0 : List Nd) (l1 : List Int) (h0 : fineN l0) (h1 : fineI l1) : ∃ k, sleuthlaw18_TopAsks.f k l0 l1 = some true := by
  refine Ev.rounds (g := fun k => sleuthlaw18_TopAsks.f k l0 l1) ?_
  have hok := h0.ok
  have hl9 : l1.length ≤ 9223372036854775806 := by have := h1.1; omega
  unfold sleuthlaw18_TopAsks.f
  refine Ev.bind topAwake_ev ?_
  simp only [if_pos]
  refine Ev.bind (next_top_ev l0 l1) ?_
  cases hm : marksS l0 l1 with
  | false =>
    have e : nextT l0 l1 = (0, 0, 1800) := by unfold nextT; rw [hm, if_neg Bool.false_ne_true]
    rw [e]
    simp only [sleuthlaw0_Num.f, Option.bind_some, if_neg (show ¬ (1800 : Int) = 0 by omega)]
    refine Ev.step (f := fun q => (sleuthref12_MarksMay.f q l0 l1).bind fun t400 => (some (!t400))) (fun q => ?_) ?_
    · rw [sleuthlaw18_TopAsks.j0, if_pos rfl]
      simp only [sleuthlaw0_Num.f, Option.bind_some, if_neg (show ¬ (1800 : Int) = 0 by omega), BEq.rfl, Bool.and_self, if_pos]
    · refine Ev.bind (refMarks_ev l0 hok l1 hl9) ?_
      rw [hm]; exact Ev.now _
  | true =>
    obtain ⟨hmay, hl, hx⟩ := marksS_spec hm
    have hlen := mayT_len hmay
    obtain ⟨c, b, ea, hb0, hb1, hcase⟩ := ask_facts hm
    have e : nextT l0 l1 = (c, b, 0) := by unfold nextT; rw [hm, if_pos rfl, ea]
    rw [e]
    simp only [sleuthlaw0_Num.f, Option.bind_some, if_pos]
    refine Ev.bind (refMarks_ev l0 hok l1 hl9) ?_
    rw [hm]
    refine Ev.step (f := fun q => sleuthlaw18_TopAsks.j1 q l0 l1 false c b) (fun q => ?_) ?_
    · rw [sleuthlaw18_TopAsks.j0, Bool.not_true, if_neg Bool.false_ne_true, if_neg (by omega), decide_eq_false (show ¬ b ≥ (l0.length : Int) by omega)]
    · rcases hcase with ⟨rfl, g1, g2⟩ | ⟨rfl, g1, g2⟩ | ⟨rfl, g1, rfl⟩ | ⟨rfl, rfl⟩
      · refine Ev.step (f := fun _ => some true) (fun q => ?_) (Ev.now _)
        rw [sleuthlaw18_TopAsks.j1, if_neg Bool.false_ne_true, if_pos rfl, if_pos hb0, if_pos (by omega), if_pos g1]
        by_cases d : b = 0
        · rw [if_pos d]
        · rcases g2 with g2 | ⟨g3, g4, g5⟩
          · exact absurd g2 d
          · rw [if_neg d, if_pos hb1, if_pos g3, if_pos (by rw [hl]; exact g4), g5]; rfl
      · refine Ev.step (f := fun q => sleuthlaw18_TopAsks.l0 q l0 l1 0 1 b) (fun q => ?_) (asks_l0 hl hlen.2 b hb0 hb1 g1 g2 1 l0.length 0 (by omega))
        rw [sleuthlaw18_TopAsks.j1, if_neg Bool.false_ne_true, if_neg (by omega), if_pos rfl]
      · refine Ev.step (f := fun _ => some true) (fun q => ?_) (Ev.now _)
        rw [sleuthlaw18_TopAsks.j1, if_neg Bool.false_ne_true, if_neg (by omega), if_neg (by omega), if_pos rfl, if_pos (by omega), if_pos g1]; rfl
      · refine Ev.step (f := fun _ => some true) (fun q => ?_) (Ev.now _)
        rw [sleuthlaw18_TopAsks.j1, if_neg Bool.false_ne_true, if_neg (by omega), if_neg (by omega), if_neg (by omega)]; rfl
end Go.Proofs.YtpbobdgenjhjoaaDoor.G
