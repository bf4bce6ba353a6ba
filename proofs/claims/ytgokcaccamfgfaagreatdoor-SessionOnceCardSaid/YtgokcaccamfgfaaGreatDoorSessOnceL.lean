/- The law SessionOnce of package session, as a plain statement about what the program and the document compute. -/
import Derived.Test.YtgokcaccamfgfaaGreatDoorU13
import Derived.Test.YtgokcaccamfgfaaGreatDoorG55
namespace Go.Proofs.YtgokcaccamfgfaaGreatDoor.G
open Go.RowKit Go.Proofs.YtgokcaccamfgfaaGreatDoorW.PrintWords Go.Proofs.YtgokcaccamfgfaaGreatDoorW.PrintLast Go.Proofs.YtgokcaccamfgfaaGreatDoorW.PrintMore
set_option linter.unusedVariables false
set_option linter.unusedSimpArgs false
def seenB (m : List Int) : List Bool := m.map fun x => x != 0
theorem seenB_at (m : List Int) (i : Int) (h0 : 0 ≤ i) (h1 : i < (m.length : Int)) : rdOf false (seenB m) i = (rd m i != 0) := by
  show List.getD _ _ _ = (List.getD _ _ _ != 0)
  unfold seenB
  rw [List.getD_eq_getElem?_getD, List.getD_eq_getElem?_getD, List.getElem?_map, List.getElem?_eq_getElem (show i.toNat < m.length by omega)]; rfl
theorem seenB_set (m : List Int) (i : Nat) (v : Int) (hv : v ≠ 0) : (seenB m).set i true = seenB (m.set i v) := by
  unfold seenB
  rw [List.map_set, bne_iff_ne.2 hv]
theorem once_l0 (ns : List Nd) (w : Int) (zs : List An) (hz : zs.length ≤ 9223372036854775806) (hle : zs.length ≤ ns.length) : ∀ (n i : Nat) (m : List Int), i + n = zs.length → marksS ns m = true → goS ns w (zs.drop i) m = true → Ev (fun k => sleuthlaw21_SessionOnce.l0 k (seenB m) (i : Int) ns w zs) true := by
  intro n
  induction n with
  | zero =>
    intro i m hi hm hg
    refine Ev.step (f := fun _ => some true) (fun k => ?_) (Ev.now _)
    rw [sleuthlaw21_SessionOnce.l0, if_neg (by omega), decide_eq_true (by omega)]
  | succ n ih =>
    intro i m hi hm hg
    have hw : wrap64 ((i : Int) + 1) = ((i + 1 : Nat) : Int) := by rw [w64 (by omega) (by omega)]; omega
    have hlt : (i : Int) < (zs.length : Int) := by omega
    have hi0 : (0 : Int) ≤ (i : Int) := by omega
    rw [drop_ra zs i (by omega)] at hg
    obtain ⟨a, hae⟩ : ∃ a, ra zs (i : Int) = a := ⟨_, rfl⟩
    have hae' : rd_T46 zs (i : Int) = a := hae
    rw [hae] at hg
    obtain ⟨h0, h1, h2, h3, h4, h5⟩ := goS_ask hm hg
    have hb := markB_spec h3
    have hsl : (seenB m).length = m.length := List.length_map ..
    have hs : rdOf false (seenB m) a.f0 = false := by rw [seenB_at m a.f0 h0 h1, h2]; rfl
    refine Ev.step (fun k => ?_) (ih (i + 1) _ (by omega) h4 h5)
    rw [sleuthlaw21_SessionOnce.l0, if_pos hlt, if_pos hi0, hae', if_neg (by omega), if_neg (by omega), if_pos h0, if_pos (by omega), hs, if_neg Bool.false_ne_true, hw, seenB_set m a.f0.toNat a.f1 (by omega)]
theorem sessOnce_pure (l0 : List Nd) (a1 : Int) (l2 : List An) (h : fineN l0 ∧ (Lit.int .i64 a1).wf = true ∧ fineA l2) : ∃ k, sleuthlaw21_SessionOnce.f k l0 a1 l2 = some true := by
  refine Ev.rounds (g := fun k => sleuthlaw21_SessionOnce.f k l0 a1 l2) ?_
  have hok := h.1.ok
  have hz := h.2.2.1
  have hz' : l2.length ≤ 9223372036854775806 := by omega
  unfold sleuthlaw21_SessionOnce.f
  refine Ev.bind sessAwake_ev ?_
  simp only [if_pos]
  refine Ev.bind (sessMay_ev l0 a1 l2 hz') ?_
  by_cases c : sessS l0 a1 l2 = true
  · have c' := c
    unfold sessS at c'
    by_cases d : (mayT l0 && wayB a1) = true
    · rw [if_pos d] at c'
      rw [Bool.and_eq_true] at d
      have hlen := mayT_len d.1
      have g1 : (0 : Int) ≤ (l0.length : Int) := by omega
      have g2 : l0.length ≤ 281474976710656 := by omega
      simp only [if_pos c, if_pos g1, Int.toNat_natCast, if_pos g2]
      have e : List.replicate l0.length false = seenB (List.replicate l0.length 0) := by
        unfold seenB
        rw [List.map_replicate]; rfl
      rw [e]
      exact once_l0 l0 a1 l2 hz' (goS_max d.1 c') l2.length 0 _ (Nat.zero_add _) (marksS_zero d.1) (by rw [List.drop_zero]; exact c')
    · rw [if_neg d] at c'; cases c'
  · simp only [if_neg c]
    refine Ev.bind (refSMay_ev l0 hok a1 l2 hz') ?_
    rw [Bool.not_eq_true] at c
    rw [c]
    exact Ev.now _
end Go.Proofs.YtgokcaccamfgfaaGreatDoor.G
