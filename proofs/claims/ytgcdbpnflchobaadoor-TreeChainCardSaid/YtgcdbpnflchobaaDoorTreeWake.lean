/- What the laws of package tree share. -/
import Derived.Test.YtgcdbpnflchobaaDoorTV
import Derived.Test.YtgcdbpnflchobaaDoorTRows
import Derived.Test.YtgcdbpnflchobaaDoorG31
namespace Go.Proofs.YtgcdbpnflchobaaDoor.G
open Go.RowKit Go.Proofs.YtgcdbpnflchobaaDoorW.PrintWords Go.Proofs.YtgcdbpnflchobaaDoorW.PrintLast Go.Proofs.YtgcdbpnflchobaaDoorW.PrintMore
set_option linter.unusedVariables false
set_option linter.unusedSimpArgs false
def someT : List Nd := [(⟨0, (-1), ([] : List ByteArray), (⟨#[57]⟩ : ByteArray)⟩ : Nd), (⟨1, 0, (([(⟨#[64, 55, 40, 95, 32, 52, 41]⟩ : ByteArray), (⟨#[53]⟩ : ByteArray)] : List ByteArray)), (⟨#[57]⟩ : ByteArray)⟩ : Nd), (⟨2, 0, ([] : List ByteArray), (⟨#[33]⟩ : ByteArray)⟩ : Nd), (⟨1, 1, (([(⟨#[49]⟩ : ByteArray), (⟨#[95]⟩ : ByteArray)] : List ByteArray)), (⟨#[95]⟩ : ByteArray)⟩ : Nd), (⟨1, 2, (([(⟨#[49]⟩ : ByteArray), (⟨#[95]⟩ : ByteArray)] : List ByteArray)), (⟨#[95]⟩ : ByteArray)⟩ : Nd)]
theorem some_eq : sleuthlaw13_some.f = some someT := rfl
theorem kidsS_len (ns : List Nd) (a : Int) (hok : okN ns) : (kidsS ns a).1.length ≤ 9223372036854775806 := by
  unfold kidsS
  have := kidsTo_len ns a ns.length
  have := hok.1
  split <;> simp <;> omega
theorem awake_ev : Ev (fun k => sleuthlaw13_awake.f k) true := by
  unfold sleuthlaw13_awake.f
  simp only [some_eq, Option.bind_some]
  refine Ev.bind (kids_ev someT 0) (Ev.bind (size_ev someT 1) (Ev.bind (size_ev someT 0) (Ev.bind (kids_ev someT 5) (Ev.bind (size_ev [] 0) ?_))))
  have e1 : kidsS someT 0 = ([1, 2], 0) := by kernel_rfl
  have e2 : sizeS someT 1 = (2, 0) := by kernel_rfl
  have e3 : sizeS someT 0 = (5, 0) := by kernel_rfl
  have e4 : kidsS someT 5 = ([], 1300) := by kernel_rfl
  have e5 : sizeS [] 0 = (0, 1300) := by kernel_rfl
  rw [e1, e2, e3, e4, e5]
  refine Ev.bind (sameInts_ev [1, 2] (by simp)) ?_
  simp only [sleuthlaw0_Num.f, Option.bind_some, if_pos]
  exact Ev.now _
end Go.Proofs.YtgcdbpnflchobaaDoor.G
