/- The law TreeForms, as a plain statement. -/
import Derived.Test.YtgcdbpnflchobaaDoorTreeWake
import Derived.Test.YtgcdbpnflchobaaDoorG34
namespace Go.Proofs.YtgcdbpnflchobaaDoor.G
open Go.RowKit Go.Proofs.YtgcdbpnflchobaaDoorW.PrintWords Go.Proofs.YtgcdbpnflchobaaDoorW.PrintLast Go.Proofs.YtgcdbpnflchobaaDoorW.PrintMore
set_option linter.unusedVariables false
set_option linter.unusedSimpArgs false
def badT (i : Nat) : List Nd := someT.set i (⟨(rn someT (i : Int)).f0, (rn someT (i : Int)).f1, (rn someT (i : Int)).f2, (⟨#[63]⟩ : ByteArray)⟩ : Nd)
theorem bad_all : ((List.range 4).all fun i => decide (kidsS (badT i) 0 = ([], 1300)) && decide (sizeS (badT i) 0 = (0, 1300))) = true := by kernel_rfl
theorem out_kids (a : Int) (h : a < 0 ∨ 5 ≤ a) : kidsS someT a = ([], 1300) ∧ sizeS someT a = (0, 1300) := by
  have : inT someT a = false := by
    unfold inT
    rw [show (someT.length : Int) = 5 from rfl]
    rcases h with h | h
    · rw [decide_eq_false (show ¬ 0 ≤ a by omega), Bool.false_and, Bool.and_false]
    · rw [decide_eq_false (show ¬ a < 5 by omega), Bool.and_false, Bool.and_false]
  unfold kidsS sizeS
  rw [this]
  exact ⟨rfl, rfl⟩
theorem treeForms_pure : sleuthlaw13_TreeForms.Pure := by
  intro a0 a1 _ _
  refine Ev.rounds (g := fun k => sleuthlaw13_TreeForms.f k a0 a1) ?_
  unfold sleuthlaw13_TreeForms.f
  refine Ev.bind awake_ev ?_
  obtain ⟨i, hi, ei⟩ : ∃ i : Nat, i < 4 ∧ Go.bits .and .i64 a1 3 = (i : Int) := by
    have h := and_range a1 3 (by omega)
    rw [show ((3 : Nat) : Int) = 3 from rfl] at h
    exact ⟨(Go.bits .and .i64 a1 3).toNat, by omega, by omega⟩
  obtain ⟨j, hj, ej⟩ : ∃ j : Nat, j < 2 ∧ Go.bits .and .i64 a0 1 = (j : Int) := by
    have h := and_range a0 1 (by omega)
    rw [show ((1 : Nat) : Int) = 1 from rfl] at h
    exact ⟨(Go.bits .and .i64 a0 1).toNat, by omega, by omega⟩
  obtain ⟨d, hd, ed⟩ : ∃ d : Nat, d ≤ 1023 ∧ Go.bits .and .i64 a1 1023 = (d : Int) := by
    have h := and_range a1 1023 (by omega)
    rw [show ((1023 : Nat) : Int) = 1023 from rfl] at h
    exact ⟨(Go.bits .and .i64 a1 1023).toNat, by omega, by omega⟩
  have hall := List.all_eq_true.1 bad_all i (List.mem_range.2 hi)
  rw [Bool.and_eq_true, decide_eq_true_iff, decide_eq_true_iff] at hall
  have hd1 : wrap64 (1 + (d : Int)) = 1 + (d : Int) := w64 (by omega) (by omega)
  have hd2 : wrap64 (-(1 + (d : Int))) = -(1 + (d : Int)) := w64 (by omega) (by omega)
  have hd3 : wrap64 (4 + (1 + (d : Int))) = 4 + (1 + (d : Int)) := w64 (by omega) (by omega)
  simp only [some_eq, Option.bind_some, if_pos, ei, ej, ed, hd1, hd2, hd3]
  have g1 : (0 : Int) ≤ (i : Int) := by omega
  have g2 : (i : Int) < (someT.length : Int) := by show (i : Int) < 5; omega
  have g3 : (0 : Int) ≤ (j : Int) := by omega
  have g4 : (j : Int) < (([-(1 + (d : Int)), 4 + (1 + (d : Int))] : List Int).length : Int) := by show (j : Int) < 2; omega
  simp only [if_pos g1, if_pos g2, if_pos g3, if_pos g4]
  obtain ⟨v, hv, hout⟩ : ∃ v : Int, rd ([-(1 + (d : Int)), 4 + (1 + (d : Int))] : List Int) (j : Int) = v ∧ (v < 0 ∨ 5 ≤ v) := by
    rcases Nat.lt_or_ge j 1 with c | c
    · obtain rfl : j = 0 := by omega
      exact ⟨_, rfl, .inl (by show -(1 + (d : Int)) < 0; omega)⟩
    · obtain rfl : j = 1 := by omega
      exact ⟨_, rfl, .inr (by show 5 ≤ 4 + (1 + (d : Int)); omega)⟩
  obtain ⟨o1, o2⟩ := out_kids v hout
  simp only [hv]
  have hb : (someT.set ((i : Int) : Int).toNat (⟨(rn someT (i : Int)).f0, (rn someT (i : Int)).f1, (rn someT (i : Int)).f2, (⟨#[63]⟩ : ByteArray)⟩ : Nd)) = badT i := by rw [Int.toNat_natCast]; rfl
  simp only [hb]
  refine Ev.bind (kids_ev (badT i) 0) (Ev.bind (size_ev (badT i) 0) (Ev.bind (kids_ev someT v) (Ev.bind (size_ev someT v) ?_)))
  rw [hall.1, hall.2, o1, o2]
  simp only [sleuthlaw0_Num.f, Option.bind_some, if_pos, List.length_nil]
  exact Ev.now _
end Go.Proofs.YtgcdbpnflchobaaDoor.G
