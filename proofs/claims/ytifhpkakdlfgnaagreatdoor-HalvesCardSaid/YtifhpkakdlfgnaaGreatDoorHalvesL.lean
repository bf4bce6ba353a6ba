/- The law Halves of package half, as a plain statement about what the program and the document compute. -/
import Derived.Test.YtifhpkakdlfgnaaGreatDoorHalfWake
import Derived.Test.YtifhpkakdlfgnaaGreatDoorU10
import Derived.Test.YtifhpkakdlfgnaaGreatDoorU8
import Derived.Test.YtifhpkakdlfgnaaGreatDoorU9
import Derived.Test.YtifhpkakdlfgnaaGreatDoorG37
import Derived.Test.YtifhpkakdlfgnaaGreatDoorG39
namespace Go.Proofs.YtifhpkakdlfgnaaGreatDoor.G
open Go.RowKit Go.Proofs.YtifhpkakdlfgnaaGreatDoorW.PrintWords Go.Proofs.YtifhpkakdlfgnaaGreatDoorW.PrintLast Go.Proofs.YtifhpkakdlfgnaaGreatDoorW.PrintMore
set_option linter.unusedVariables false
set_option linter.unusedSimpArgs false
theorem lend_eq (l : List Int) (h : l.length * 8 ≤ 140737488351232) : sleuthlaw0_LendInts.f l = some l := by
  have c : sleuthlaw0_CopyInts.f l = some l := by
    unfold sleuthlaw0_CopyInts.f
    simp only [Option.bind_some, List.nil_append, List.length_nil, Nat.zero_add]
    rw [if_pos (by omega)]
  unfold sleuthlaw0_LendInts.f
  rw [c, Option.bind_some, if_pos rfl, if_pos (by omega)]
theorem kept_ev (l : List Int) (h : l.length * 8 ≤ 140737488351232) : Ev (fun k => sleuthlaw0_KeptInts.f k l l) true := by
  unfold sleuthlaw0_KeptInts.f
  refine Ev.bind (sameInts_ev l (by omega)) ?_
  simp only [if_pos]
  rw [if_pos (by omega)]
  exact Ev.now _
theorem refHalf_ev (ns : List Nd) (hok : okN ns) (ms : List Int) (hl : ms.length ≤ 9223372036854775806) : Ev (fun k => sleuthref12_Half.f k ns ms) (nextH ns ms) := by
  unfold sleuthref12_Half.f nextH
  refine Ev.bind (refMarks_ev ns hok ms hl) ?_
  by_cases c : marksS ns ms = true
  · simp only [if_pos c]
    exact Ev.bind (byHalves_ev c) (Ev.now _)
  · simp only [if_neg c]; exact Ev.now _
theorem halves_pure (l0 : List Nd) (l1 : List Int) (h0 : fineN l0) (h1 : fineI l1) : ∃ k, sleuthlaw19_Halves.f k l0 l1 = some true := by
  refine Ev.rounds (g := fun k => sleuthlaw19_Halves.f k l0 l1) ?_
  have hok := h0.ok
  have hb := h1.1
  unfold sleuthlaw19_Halves.f
  refine Ev.bind (copy_ev l0 hok) ?_
  simp only [lend_eq l1 hb, Option.bind_some]
  refine Ev.bind (next_half_ev l0 l1) (Ev.bind (refHalf_ev l0 hok l1 (by omega)) ?_)
  simp only [sleuthlaw0_Num.f, Option.bind_some, if_pos, BEq.rfl, Bool.and_self]
  refine Ev.bind (sameNodes_ev l0 hok) ?_
  simp only [if_pos]
  refine Ev.bind (kept_ev l1 hb) ?_
  simp only [if_pos]
  exact halfAwake_ev
end Go.Proofs.YtifhpkakdlfgnaaGreatDoor.G
