import Derived.Deep.RegionWith
import Derived.Lib.OthersKept
import Derived.Lib.AppendIntMem
import Derived.Lib.AtoiErrMem
import Derived.Test.YtjodjfbhaojhjaaDoorShelf
import Derived.Test.YtjodjfbhaojhjaaDoorU0
namespace Go.Proofs.YtjodjfbhaojhjaaDoor.G
open Go.RowKit Go.Proofs.YtjodjfbhaojhjaaDoorW.PrintWords Go.Proofs.YtjodjfbhaojhjaaDoorW.PrintLast Go.Proofs.YtjodjfbhaojhjaaDoorW.PrintMore
set_option linter.unusedVariables false
set_option linter.unusedSimpArgs false

structure GOK (w : World) : Prop where
  tab : Lib.TabIs Tryd.prog w "internal/strconv.uint64pow10" .u64 Lib.pow10Tab
  syn : ∃ tp p, w.var? Tryd.prog "strconv.ErrSyntax" = some #[.iface tp p]
  ran : ∃ tp p, w.var? Tryd.prog "strconv.ErrRange" = some #[.iface tp p]
theorem var_below {P : Program} {w w1 : World} {n : String} {cs : Array Value} (h : w.var? P n = some cs) (hb : Below w.heap.size w w1) : w1.var? P n = some cs := by
  unfold World.var? at h ⊢
  cases hg : P.globalNamed n with
  | none => simp [hg] at h
  | some g =>
    simp only [hg, Option.bind_some] at h ⊢
    have hlt : g < w.heap.size := by
      rcases Nat.lt_or_ge g w.heap.size with h' | h'
      · exact h'
      · simp [Array.getElem?_eq_none h'] at h
    rw [hb.block g hlt]
    exact h
theorem GOK.below {w w1 : World} (h : GOK w) (hb : Below w.heap.size w w1) : GOK w1 := by
  obtain ⟨h1, ⟨t2, p2, h2⟩, ⟨t3, p3, h3⟩⟩ := h
  exact ⟨var_below h1 hb, ⟨t2, p2, var_below h2 hb⟩, ⟨t3, p3, var_below h3 hb⟩⟩

def digK : Nat → Nat → List UInt8
  | 0, _ => []
  | k + 1, u => if u < 10 then [UInt8.ofNat (48 + u)] else digK k (u / 10) ++ [UInt8.ofNat (48 + u % 10)]
def itoaK (n : Int) : List UInt8 := if n < 0 then 45 :: digK 20 n.natAbs else digK 20 n.toNat
theorem digK_eq (k : Nat) : ∀ u, u < 10 ^ k → 0 < k → digK k u = Lib.decDigits u := by
  induction k with
  | zero => intro u h h0; omega
  | succ k ih =>
    intro u h h0
    rw [Lib.decDigits]
    unfold digK
    by_cases c : u < 10
    · rw [if_pos c, dif_pos c]
    · rw [if_neg c, dif_neg c]
      have hk : 0 < k := by
        rcases Nat.eq_zero_or_pos k with rfl | hk
        · simp at h; omega
        · exact hk
      rw [ih (u / 10) (by rw [Nat.pow_succ] at h; omega) hk]
theorem itoaK_eq (n : Int) (h0 : -9223372036854775808 ≤ n) (h1 : n ≤ 9223372036854775807) : Lib.itoa n = itoaK n := by
  unfold Lib.itoa itoaK
  by_cases c : n < 0
  · rw [if_pos c, if_pos c, digK_eq 20 _ (by omega) (by omega)]
  · rw [if_neg c, if_neg c, digK_eq 20 _ (by omega) (by omega)]
/-- what term.Number answers -/
def numF (s : ByteArray) : Int × Bool :=
  match Lib.atoiAll s.data.toList with
  | .ok v => (v, (decide (-32768 ≤ v) && decide (v ≤ 32767)) && itoaK v == s.data.toList)
  | .range => (Lib.atoiSat s.data.toList, false)
  | _ => (0, false)
/-- what term.Digits answers -/
def digF (s : ByteArray) (most : Int) : Int × Bool :=
  match Lib.atoiAll s.data.toList with
  | .ok v => (v, (decide (0 ≤ v) && decide (v ≤ most)) && itoaK v == s.data.toList)
  | .range => (Lib.atoiSat s.data.toList, false)
  | _ => (0, false)
/-- strconv.Atoi, its three ends under one statement: a number, and whether the error is nil -/
def errV (ok : Bool) (N : Nat) : Value := if ok then .nilIface else .iface 95 (.pointer (some ⟨N, 0, none⟩))
def atoiF (s : ByteArray) : Int × Bool :=
  match Lib.atoiAll s.data.toList with
  | .ok v => (v, true)
  | .range => (Lib.atoiSat s.data.toList, false)
  | _ => (0, false)
theorem atoiF_range (s : ByteArray) : -9223372036854775808 ≤ (atoiF s).1 ∧ (atoiF s).1 ≤ 9223372036854775807 := by
  unfold atoiF
  cases h : Lib.atoiAll s.data.toList
  case ok v => exact Lib.atoiAll_bounds h
  case range => unfold Lib.atoiSat; dsimp only; split <;> exact ⟨by decide, by decide⟩
  all_goals exact ⟨(by omega : (-9223372036854775808 : Int) ≤ 0), (by omega : (0 : Int) ≤ 9223372036854775807)⟩
theorem bytesWorld_B {w w' : World} (h : w' = w ∨ ∃ t, w' = Lib.bytesWorld w 5 t) : Below w.heap.size w w' := by
  rcases h with rfl | ⟨t, rfl⟩
  · exact Below.refl _ _
  · exact Lib.bytesWorld_below _ _ _
theorem atoi_calls (s : ByteArray) (hs : s.size ≤ 281474976710656) (w : World) (hG : GOK w) :
    Calls Tryd.prog 42 #[.string s] w fun e w' => (∃ N, e = .returned (.tuple #[.int .i64 (atoiF s).1, errV (atoiF s).2 N])) ∧ Below w.heap.size w w' := by
  obtain ⟨_, ⟨t2, p2, h2⟩, ⟨t3, p3, h3⟩⟩ := hG
  unfold atoiF
  cases h : Lib.atoiAll s.data.toList
  case ok v =>
    refine (Tryd.strconv_Atoi_ok s (by omega) v h w).mono ?_
    rintro e w' ⟨rfl, hw⟩
    exact ⟨⟨0, rfl⟩, bytesWorld_B hw⟩
  case range =>
    refine (Tryd.strconv_Atoi_range_var s hs h t3 p3 w h3).mono ?_
    rintro e w' ⟨N, rfl, _, _, hb⟩
    exact ⟨⟨N, rfl⟩, hb⟩
  all_goals
    refine (Tryd.strconv_Atoi_syntax_var s hs h t2 p2 w h2).mono ?_
    rintro e w' ⟨N, rfl, _, _, hb⟩
    exact ⟨⟨N, rfl⟩, hb⟩
theorem itoa_calls (n : Int) (h0 : -9223372036854775808 ≤ n) (h1 : n ≤ 9223372036854775807) (w : World) (hG : GOK w) :
    Calls Tryd.prog 44 #[.int .i64 n] w fun e w' => e = .returned (.string ⟨(itoaK n).toArray⟩) ∧ Below w.heap.size w w' := by
  refine (Tryd.strconv_Itoa n h0 h1 w hG.tab).mono ?_
  rintro e w' ⟨rfl, k, os, rfl⟩
  exact ⟨by rw [itoaK_eq n h0 h1], Lib.below_grow _ _ (Nat.le_refl _) _ _⟩
end Go.Proofs.YtjodjfbhaojhjaaDoor.G
