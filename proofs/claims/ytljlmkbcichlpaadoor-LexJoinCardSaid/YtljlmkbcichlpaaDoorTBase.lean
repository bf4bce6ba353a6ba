import Derived.Deep.RegionWith
import Derived.Lib.OthersKept
import Derived.Lib.AppendIntMem
import Derived.Laws.RangeAny
import Derived.Lib.SliceRun
import Derived.Deep.WholeRow
import Derived.Defers
import Derived.Laws.Cover3
import Derived.Laws.CopyRow
import Derived.Laws.Pointers
import Derived.Laws.LoneSync
import Derived.RegionCalls
import Derived.ChangeAlike
import Derived.Laws.NewBlocks
import Derived.Laws.MakeOwn
import Derived.Shelf.Strings.BuilderK
import Derived.Test.YtljlmkbcichlpaaDoorShelf
import Derived.Test.YtljlmkbcichlpaaDoorWMore
namespace Go.Proofs.YtljlmkbcichlpaaDoor.G
open Go.RowKit Go.Proofs.YtljlmkbcichlpaaDoorW.PrintWords Go.Proofs.YtljlmkbcichlpaaDoorW.PrintLast Go.Proofs.YtljlmkbcichlpaaDoorW.PrintMore
set_option linter.unusedVariables false
set_option linter.unusedSimpArgs false

structure GOK (w : World) : Prop where
  tab : Lib.TabIs Tryd.prog w "strings.asciiSpace" .u8 Lib.asciiSpaceTab
theorem var_below {P : Program} {w w1 : World} {n : String} {cs : Array Value} (h : w.var? P n = some cs) (hb : Below w.heap.size w w1) : w1.var? P n = some cs := by
  unfold World.var? at h ⊢
  cases hg : P.globalNamed n with
  | none => simp [hg] at h
  | some g =>
    simp only [hg, Option.bind_some] at h ⊢
    have hlt : g < w.heap.size := by
      rcases Nat.lt_or_ge g w.heap.size with h' | h'
      · exact h'
      · simp [Array.getElem?_eq_none h'] at h
    rw [hb.block g hlt]
    exact h
theorem GOK.below {w w1 : World} (h : GOK w) (hb : Below w.heap.size w w1) : GOK w1 := ⟨var_below h.tab hb⟩
end Go.Proofs.YtljlmkbcichlpaaDoor.G
