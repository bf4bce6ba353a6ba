/- What the laws of package half share. -/
import Derived.Test.YtifhpkakdlfgnaaGreatDoorU10
import Derived.Test.YtifhpkakdlfgnaaGreatDoorG38
namespace Go.Proofs.YtifhpkakdlfgnaaGreatDoor.G
open Go.RowKit Go.Proofs.YtifhpkakdlfgnaaGreatDoorW.PrintWords Go.Proofs.YtifhpkakdlfgnaaGreatDoorW.PrintLast Go.Proofs.YtifhpkakdlfgnaaGreatDoorW.PrintMore
set_option linter.unusedVariables false
set_option linter.unusedSimpArgs false
theorem evRounds {α : Type} {g : Nat → Option α} {r : α} (h : Ev g r) : ∃ k, g k = some r := by
  obtain ⟨K, h⟩ := h
  exact ⟨K, h K (Nat.le_refl _)⟩
def halfSome : List Nd := [(⟨0, (-1), ([] : List ByteArray), (⟨#[57]⟩ : ByteArray)⟩ : Nd), (⟨1, 0, (([(⟨#[64, 55, 40, 95, 32, 52, 41]⟩ : ByteArray), (⟨#[53]⟩ : ByteArray)] : List ByteArray)), (⟨#[57]⟩ : ByteArray)⟩ : Nd), (⟨2, 0, ([] : List ByteArray), (⟨#[33]⟩ : ByteArray)⟩ : Nd), (⟨1, 1, (([(⟨#[49]⟩ : ByteArray), (⟨#[95]⟩ : ByteArray)] : List ByteArray)), (⟨#[95]⟩ : ByteArray)⟩ : Nd), (⟨1, 2, (([(⟨#[49]⟩ : ByteArray), (⟨#[95]⟩ : ByteArray)] : List ByteArray)), (⟨#[95]⟩ : ByteArray)⟩ : Nd)]
theorem halfSome_eq : sleuthlaw19_some.f = some halfSome := rfl
theorem halfAwake_ev : Ev (fun k => sleuthlaw19_awake.f k) true := by
  unfold sleuthlaw19_awake.f
  simp only [halfSome_eq, Option.bind_some]
  refine Ev.bind (next_half_ev halfSome [0, 0, 0, 0, 0]) (Ev.bind (next_half_ev halfSome [2, 0, 0, 0, 0]) (Ev.bind (next_half_ev halfSome [2, 1, 2, 0, 1]) (Ev.bind (next_half_ev halfSome [2, 3, 1, 1, 0]) (Ev.bind (next_half_ev [] []) ?_))))
  have e1 : nextH halfSome [0, 0, 0, 0, 0] = (0, 0, 0) := by kernel_rfl
  have e2 : nextH halfSome [2, 0, 0, 0, 0] = (0, 1, 0) := by kernel_rfl
  have e3 : nextH halfSome [2, 1, 2, 0, 1] = (1, 2, 0) := by kernel_rfl
  have e4 : nextH halfSome [2, 3, 1, 1, 0] = (3, 0, 0) := by kernel_rfl
  have e5 : nextH [] [] = (0, 0, 1900) := by kernel_rfl
  rw [e1, e2, e3, e4, e5]
  simp only [sleuthlaw0_Num.f, Option.bind_some, if_pos, BEq.rfl, Bool.and_self]
  exact Ev.now _
end Go.Proofs.YtifhpkakdlfgnaaGreatDoor.G
