/- Parts of this proof, one behind the other: WNEv, WMore, TBase, THead, WTab, WFour, WFootNe, WAt, WEqStruct, WRepsOne, WInv, WInvWords, WGuard, G0, G2, G3, G4, G5, G6, G7, G8, G9. -/
import Derived.Test.YtpbobdgenjhjoaaDoorU0
import Derived.Deep.RegionWith
import Derived.Lib.OthersKept
import Derived.Lib.AppendIntMem
import Derived.Lib.AtoiErrMem
import Derived.Test.YtpbobdgenjhjoaaDoorShelf
import Derived.RangeFuncNested
import Derived.RangeFuncBound
import Derived.RangeFuncCalls
import Derived.RangeFuncLeaves
import Derived.RangeFuncBox
import Derived.Shelf.Abstract
import Derived.Shelf.RegionOpen
import Derived.WalkKit
import Derived.OwnWalkIn
import Derived.TacticsInMore
import Derived.LoopNIn
import Derived.LoopIn
import Derived.Maps.AppendAt
import Derived.IntWalk
import Derived.Sort.QuietIn
import Derived.Sort.QuietLawsIn
import Derived.StillTail
import Derived.Laws.StructEq
import Derived.Test.YtpbobdgenjhjoaaDoorProg
import Derived.Below
import Derived.Deep.Draws
import Derived.Deep.AppendLies
import Derived.OwnWalk
import Derived.Laws.BytesArg
import Derived.Laws.MakeOwn
import Derived.Laws.OwnMore
import Derived.Deep.OwnRows
import Derived.Tactics
import Derived.Lib.ConvBytes
import Derived.Laws.Slices
import Derived.KernelRfl
import Derived.RowKit3
import Derived.Deep.LoopGhost
import Derived.Deep.QuietTactic
import Derived.BigQuiet
import Derived.WideLaws
import Derived.Deep.DeepCutAuto
import Derived.Deep.CutBlock
import Derived.Deep.RegionHeld3
import Derived.Laws.Rows
import Derived.Lib.AppendStr
import Derived.ArgAppend
import Derived.Laws.IdiomCopy
import Derived.OrdersHeld
import Derived.Laws.BitsLemmas
import Derived.RowKit
section
-- Cut by the session's own program (prune.py) out of the kit's printed words: what this seat's claims name.
namespace Go.Proofs.YtpbobdgenjhjoaaDoorW.PrintWords
open Go.RowKit
namespace Kd
section
variable {α : Type} {d : Kd α} {e base n cap g : Nat} {ok ok' okp : Nat → Prop} {w w1 W : World} {v v1 : Value} {xs ys : List α}
/-- What was made just now. -/
theorem N_made {rows : List (List Value)} (hR : (raw d.sz).R e w1 base (fun k => k = W.heap.size) v1 rows) (hg : W.grownBy w1 none) (hat : ∃ b, v1.ownBlock = some b ∧ W.heap.size ≤ b) (hl : rows.length = xs.length) (hf : ∀ (j : Nat) (x : α) (c : List Value), xs[j]? = some x → rows[j]? = some c → FK d W okp x c)
    (hok : ∀ k, okp k → ok k) (hfresh : ok W.heap.size) : N d e w1 base ok v1 xs := by
  obtain ⟨b, hb, hle⟩ := hat
  refine ⟨fun k hk => by rw [hR.1 k hk]; exact hfresh, rows, hl, raw_tight hR, fun j x c hx hc => ?_⟩
  refine FK_mono (FK_step (FK_bound (hf j x c hx hc)) (fun k hk hlt => hg.block k hlt (by simp))) (fun k hk => ⟨hok k hk.1, fun he => ?_⟩)
  rw [hb] at he
  injection he with he
  have := hk.2
  omega
/-- Element i's cells were written: it is x' then. -/
theorem N_written {rows : List (List Value)} {i : Int} {x' : α} {c' : List Value} (h0 : ∀ k, (Value.slice (some ⟨g, 0, none⟩) n cap).ownBlock = some k → ok k) (hl : rows.length = xs.length) (hf : ∀ (j : Nat) (x : α) (c : List Value), xs[j]? = some x → rows[j]? = some c → FK d W (fun k => ok k ∧ some k ≠ (Value.slice (some ⟨g, 0, none⟩) n cap).ownBlock) x c)
    (hR : (raw d.sz).R e w1 base (fun _ => True) (.slice (some ⟨g, 0, none⟩) n cap) (rows.set i.toNat c')) (hg : W.grownBy w1 (some g)) (hM : FK d W okp x' c') (hokp : ∀ k, okp k → ok k ∧ k ≠ g) : N d e w1 base ok (.slice (some ⟨g, 0, none⟩) n cap) (xs.set i.toNat x') := by
  have hgo : some g = (Value.slice (some ⟨g, 0, none⟩) n cap).ownBlock := by simp [Value.ownBlock]
  refine ⟨h0, rows.set i.toNat c', by rw [List.length_set, List.length_set, hl], raw_tight hR, fun j x c hx hc => ?_⟩
  have hjl : j < xs.length := by have := (List.getElem?_eq_some_iff.1 hx).1; rwa [List.length_set] at this
  by_cases hji : j = i.toNat
  · subst hji
    rw [List.getElem?_set_self hjl] at hx
    rw [List.getElem?_set_self (by omega)] at hc
    injection hx with hx
    injection hc with hc
    rw [← hx, ← hc]
    exact FK_mono (FK_step hM (fun k hk hlt => hg.block k hlt (fun he => (hokp k hk).2 (by injection he)))) (fun k hk => ⟨(hokp k hk).1, fun he => (hokp k hk).2 (by rw [← hgo] at he; injection he)⟩)
  · rw [List.getElem?_set_ne (Ne.symm hji)] at hx hc
    exact FK_step (hf j x c hx hc) (fun k hk hlt => hg.block k hlt (by rw [hgo]; exact hk.2))
/-- xs = xs[:m]. -/
theorem N_take {A : Option Addr} {m c : Nat} (h : N d e w base ok (.slice A n c) xs) (hm : m ≤ xs.length) : N d e w base ok (.slice A m c) (xs.take m) := by
  obtain ⟨h0, rows, hl, hR, hf⟩ := h
  have hb : ∀ x y : Nat, (Value.slice A x c).ownBlock = (Value.slice A y c).ownBlock := by
    intro x y
    cases A <;> rfl
  refine ⟨fun k hk => h0 k (by rw [hb _ m]; exact hk), rows.take m, by rw [List.length_take, List.length_take, hl], raw_tight (R_take (raw_any hR) (by omega)), fun j x c' hx hc => ?_⟩
  rw [List.getElem?_take] at hx hc
  split at hx
  · rename_i hj
    rw [if_pos hj] at hc
    rw [hb m n]
    exact hf j x c' hx hc
  · cases hx
/-- Cells of element i are written, the world as_ it is then. -/
theorem N_seg (h : N d e W base ok (.slice (some ⟨g, 0, none⟩) n cap) xs) (i : Int) (h0 : 0 ≤ i) (h1 : i < n) {c seg : List Value} {j : Nat} (hcl : c.length = d.sz) (hcc : ∀ j u, c[j]? = some u → W.cell? ⟨g, i.toNat * d.sz + j, none⟩ = some u)
    (hj : j + seg.length ≤ d.sz) {x' : α} (hM : FK d W okp x' (c.take j ++ seg ++ c.drop (j + seg.length))) (hokp : ∀ k, okp k → ok k ∧ k ≠ g) :
    N d e (W.setCells g (i.toNat * d.sz + j) seg) base ok (.slice (some ⟨g, 0, none⟩) n cap) (xs.set i.toNat x') ∧ W.grownBy (W.setCells g (i.toNat * d.sz + j) seg) (some g) := by
  obtain ⟨hown, rows, hl, hR, hf⟩ := h
  obtain ⟨h2, h3⟩ := R_seg (raw_any hR) i h0 h1 (c := c) (seg := seg) (j := j) (x' := c.take j ++ seg ++ c.drop (j + seg.length)) (okp := fun _ => False) hcl hcc hj ⟨rfl, d.K_len (FK_now hM), d.K_one (FK_now hM)⟩ (fun _ hk => hk.elim)
  exact ⟨N_written hown hl hf h2 h3 hM hokp, h3⟩
end
section
variable {P : Program} {ops : Array Oper} {rest : List Oper} {o : Oper} {a : Act} {Q : Exit → Act → World → Prop} {Kc : Act → World → Prop} {α : Type}
/-- A literal '[]T{..}': inner its cells; what the elements lead to is okp. -/
theorem N_lit (d : Kd α) {w0 W : World} (base e : Nat) (hgd : o.guard = none) {N' : Tmp} (_hd : o.dst = some N') {xs : List α} {inner : List Value} {ok okp : Nat → Prop}
    (hrun : (execOp a.eval o).run P W = .ok (.value (.slice (some ⟨W.heap.size, 0, none⟩) xs.length xs.length)) (W.alloc (.cells inner.toArray e)))
    (hrep : Reps (FK d W okp) d.sz xs inner) (hok : ∀ k, okp k → ok k) (hfresh : ok W.heap.size) (HB : Below base w0 W) (hbase : base ≤ W.heap.size) (hm : xs.length ≤ 9223372036854775807)
    (h : ∀ v1 w1, N d e w1 base ok v1 xs → Below base w0 w1 → W.grownBy w1 none → (∃ b, v1.ownBlock = some b ∧ W.heap.size ≤ b) → wpList P ops Q rest (a.put o.dst v1) w1) :
    wpList P ops Q (o :: rest) a W := by
  refine R_lit (raw d.sz) base e hgd _hd (xs := chunks d.sz xs.length inner) (inner := inner) (ok := fun k => k = W.heap.size) (okp := fun _ => False) (by rw [chunks_length]; exact hrun) (reps_raw hrep (fun y c hk => ⟨d.K_len (FK_now hk), d.K_one (FK_now hk)⟩)) (fun _ hk => hk.elim) rfl HB hbase (by rw [chunks_length]; exact hm) ?_
  intro v1 w1 hr hb hg hat
  exact h v1 w1 (N_made hr hg hat (chunks_length _ _ _) (fun j y c hy hc => by rw [chunks_get hc]; exact hrep.2 j y hy) hok hfresh) hb hg hat
end
end Kd
end Go.Proofs.YtpbobdgenjhjoaaDoorW.PrintWords
end
section
-- Cut by the session's own program (prune.py) out of the kit's printed words: what this seat's claims name.
-- PRINTED WORDS (module Derived/Print/More.lean): go-gate-2's additions: an AI agent of Go's test side, Tue Nov 17 2026; no person has read it. Lean checks it.
namespace Go.Proofs.YtpbobdgenjhjoaaDoorW.PrintMore
open Go.RowKit Go.Proofs.YtpbobdgenjhjoaaDoorW.PrintWords
namespace Kd
open Go.Proofs.YtpbobdgenjhjoaaDoorW.PrintWords.Kd
end Kd

namespace Kd
open Go.Proofs.YtpbobdgenjhjoaaDoorW.PrintWords.Kd
section
variable {α : Type} {d : Kd α} {e base g N : Nat} {ok : Nat → Prop} {W w1 : World} {u v : Value} {xs : List α}
end
end Kd
/-- 'max' and 'min' of two whole numbers. -/
theorem max2_int (k k' : IntKind) (x y : Int) : Builtin.max2 (.int k x) (.int k' y) = pure (.int k (if x < y then y else x)) := by simp only [Builtin.max2, gt_iff_lt]
theorem min2_int (k k' : IntKind) (x y : Int) : Builtin.min2 (.int k x) (.int k' y) = pure (.int k (if y < x then y else x)) := by simp only [Builtin.min2]
theorem max_two (ats : Array TypeId) (ty : TypeId) (a b : Value) : Builtin.max_ ats ty #[a, b] = (Builtin.max2 a b >>= fun s => pure s) := by simp only [Builtin.max_, List.foldlM_cons, List.foldlM_nil]
theorem min_two (ats : Array TypeId) (ty : TypeId) (a b : Value) : Builtin.min_ ats ty #[a, b] = (Builtin.min2 a b >>= fun s => pure s) := by simp only [Builtin.min_, List.foldlM_cons, List.foldlM_nil]
theorem max_three (ats : Array TypeId) (ty : TypeId) (a b c : Value) : Builtin.max_ ats ty #[a, b, c] = (Builtin.max2 a b >>= fun s => Builtin.max2 s c >>= fun s => pure s) := by simp only [Builtin.max_, List.foldlM_cons, List.foldlM_nil]
theorem min_three (ats : Array TypeId) (ty : TypeId) (a b c : Value) : Builtin.min_ ats ty #[a, b, c] = (Builtin.min2 a b >>= fun s => Builtin.min2 s c >>= fun s => pure s) := by simp only [Builtin.min_, List.foldlM_cons, List.foldlM_nil]
theorem max_four (ats : Array TypeId) (ty : TypeId) (a b c d : Value) : Builtin.max_ ats ty #[a, b, c, d] = (Builtin.max2 a b >>= fun s => Builtin.max2 s c >>= fun s => Builtin.max2 s d >>= fun s => pure s) := by simp only [Builtin.max_, List.foldlM_cons, List.foldlM_nil]
theorem min_four (ats : Array TypeId) (ty : TypeId) (a b c d : Value) : Builtin.min_ ats ty #[a, b, c, d] = (Builtin.min2 a b >>= fun s => Builtin.min2 s c >>= fun s => Builtin.min2 s d >>= fun s => pure s) := by simp only [Builtin.min_, List.foldlM_cons, List.foldlM_nil]
end Go.Proofs.YtpbobdgenjhjoaaDoorW.PrintMore
namespace Go.Proofs.YtpbobdgenjhjoaaDoorW.PrintWords
open Go.RowKit
section
variable {P : Program} {ops : Array Oper} {rest : List Oper} {o : Oper} {a : Act} {Q : Exit → Act → World → Prop} {W : World}
/-- The operation is a call of this function (a cheap look ahead of a dear step). -/
theorem gate_callee {f : FuncId} {as : Array Operand} {ts : Array TypeId} (_ho : o.op = .call { callee := .value (.func f), args := as, argTypes := ts }) (h : wpList P ops Q (o :: rest) a W) : wpList P ops Q (o :: rest) a W := h
/-- The operation is a builtin over these places. -/
theorem gate_builtin {b : Builtin} {xs : Array Operand} {ts : Array TypeId} (_ho : o.op = .call { callee := .builtin b, args := xs, argTypes := ts }) (h : wpList P ops Q (o :: rest) a W) : wpList P ops Q (o :: rest) a W := h
end
/-- It says x = x, and that is its use: 'rw [drewN_self w]' fails where the world was not drawn, and the row behind it is skipped. -/
theorem drewN_self (w : World) (n : Nat) : w.drewN n = w.drewN n := rfl
namespace Kd
section
variable {α : Type} {d : Kd α} {e base : Nat} {ok : Nat → Prop} {W w1 : World} {v : Value} {xs : List α}
end
section
variable {α : Type} {d : Kd α} {e base g n cap : Nat} {ok oki okp : Nat → Prop} {W : World} {xs : List α} {i : Int} {c : List Value}
end
section
variable {α : Type} {d : Kd α} {e base b b' g N : Nat} {ok ok1 : Nat → Prop} {W W2 w1 : World} {u v : Value} {xs ys : List α} {S : Nat → Prop}
end
end Kd
end Go.Proofs.YtpbobdgenjhjoaaDoorW.PrintWords
namespace Go.Proofs.YtpbobdgenjhjoaaDoorW.PrintWords
open Go.RowKit
namespace Kd
/-- A row that is only read, told by its value: its form, its length, what it leads to (in ok). e and base say nothing; they make it as the others are. -/
def V {α : Type} (d : Kd α) (_e : Nat) (W : World) (_base : Nat) (ok : Nat → Prop) (v : Value) (xs : List α) : Prop := ∃ A c, v = .slice A xs.length c ∧ xs.length ≤ c ∧ F d W ok A xs.length xs
section
variable {α β : Type} {d : Kd α} {e base base' n m c g N' lo hi : Nat} {ok ok' S : Nat → Prop} {w W w1 : World} {A : Option Addr} {ad : Addr} {u v v1 : Value} {xs : List α}
theorem V_map (h : V d e W base ok v xs) (hF : ∀ A, F d W ok A xs.length xs → F d w1 ok' A xs.length xs) : V d e w1 base' ok' v xs := by
  obtain ⟨A, c, hv, hl, hf⟩ := h
  exact ⟨A, c, hv, hl, hF A hf⟩
theorem V_mk (hl : xs.length ≤ c) (hf : F d W ok A xs.length xs) : V d e W base ok (.slice A xs.length c) xs := ⟨A, c, rfl, hl, hf⟩
theorem V_at (h : V d e W base ok (.slice A n c) xs) : n = xs.length ∧ n ≤ c ∧ F d W ok A xs.length xs := by
  obtain ⟨A', c', hv, hl, hf⟩ := h
  injection hv with ha hn hc
  subst ha; subst hc
  exact ⟨hn, by rw [hn]; exact hl, hf⟩
theorem V_reads' (h : V d e W base ok (.slice A n c) xs) : n = xs.length ∧ n ≤ c ∧ d.C W A xs.length xs := ⟨(V_at h).1, (V_at h).2.1, F_now (V_at h).2.2⟩
theorem V_nil (d : Kd α) (e : Nat) (W : World) (base : Nat) (ok : Nat → Prop) : V d e W base ok (.slice none 0 0) [] := ⟨none, 0, rfl, Nat.le_refl _, F_nil d W ok⟩
theorem V_mono (h : V d e W base ok v xs) (hok : ∀ k, ok k → ok' k) : V d e W base ok' v xs := V_map h (fun _ hf => F_mono hf hok)
theorem V_below (h : V d e W base ok v xs) (hb : Below W.heap.size W w1) : V d e w1 base ok v xs := V_map h (fun _ hf => F_below hf hb)
theorem V_alloc (h : V d e W base ok v xs) (o : Obj) : V d e (W.alloc o) base ok v xs := V_map h (fun _ hf => F_alloc hf o)
theorem V_drew (h : V d e W base ok v xs) : V d e W.drew base ok v xs := V_map h (fun _ hf => F_drew hf)
theorem V_drewN (h : V d e W base ok v xs) (m : Nat) : V d e (W.drewN m) base ok v xs := V_map h (fun _ hf => F_drewN hf m)
theorem V_far (h : V d e W base ok v xs) {p : Addr} (hok : ∀ k, ok k → k ≠ p.block) (u : Value) : V d e (W.setCell p u) base ok v xs := V_map h (fun _ hf => F_far hf hok u)
theorem N_afterv (h : N d e W base (fun k => ok k ∧ some k ≠ v.ownBlock) u xs) (hg : W.grownBy w1 v.ownBlock) (hat : v1.ownBlock = v.ownBlock ∨ ∃ b, v1.ownBlock = some b ∧ W.heap.size ≤ b) : N d e w1 base (fun k => ok k ∧ some k ≠ v1.ownBlock) u xs := N_after h hg hat
theorem V_elder' (h : V d e W base ok v xs) (hbase : ∀ k, u.ownBlock = some k → W.heap.size ≤ k) (hb : Below W.heap.size W w1) : V d e w1 base (fun k => ok k ∧ some k ≠ u.ownBlock) v xs := V_map h (fun _ hf => F_elder' hf hbase hb)
theorem V_elderB (h : V d e W base ok v xs) (a : Nat) (ha : W.heap.size ≤ a) : V d e W base (fun k => ok k ∧ k ≠ a) v xs := V_map h (fun _ hf => F_elderB hf a ha)
/-- An element that is itself a row: its one cell. -/
theorem FK_slice_open {l : List α} {cs : List Value} (h : FK (Kd.slice e d) W ok l cs) : ∃ A c, cs = [.slice A l.length c] ∧ l.length ≤ c ∧ F d W ok A l.length l := by
  obtain ⟨A, c, rfl, hl, _⟩ := FK_now h
  refine ⟨A, c, rfl, hl, fun W' hW => ?_⟩
  obtain ⟨A', c', he, _, g'⟩ := h W' hW
  injection he with he _
  injection he with ha _ _
  rw [ha]
  exact g'
theorem FK_slice_mk {l : List α} (hl : l.length ≤ c) (hf : F d W ok A l.length l) : FK (Kd.slice e d) W ok l [.slice A l.length c] := fun W' hW => ⟨A, c, rfl, hl, hf W' hW⟩
theorem R_newM {M : Nat → Prop} (h : d.R e w1 W.heap.size ok v xs) (hle : w.heap.size ≤ W.heap.size) (hM : ∀ k, w.heap.size ≤ k → M k) : d.R e w1 W.heap.size (fun k => M k ∧ ok k) v xs := R_mono (R_bound h) (fun k hk => ⟨hM k (Nat.le_trans hle hk.2.1), hk.1⟩)
end
end Kd
end Go.Proofs.YtpbobdgenjhjoaaDoorW.PrintWords
end
section
namespace Go.Proofs.YtpbobdgenjhjoaaDoor.G
open Go.RowKit Go.Proofs.YtpbobdgenjhjoaaDoorW.PrintWords Go.Proofs.YtpbobdgenjhjoaaDoorW.PrintLast Go.Proofs.YtpbobdgenjhjoaaDoorW.PrintMore
set_option linter.unusedVariables false
set_option linter.unusedSimpArgs false

/-! what the library's variables hold -/
structure GOK (w : World) : Prop where
  tab : Lib.TabIs Tryd.prog w "internal/strconv.uint64pow10" .u64 Lib.pow10Tab
  syn : ∃ tp p, w.var? Tryd.prog "strconv.ErrSyntax" = some #[.iface tp p]
  ran : ∃ tp p, w.var? Tryd.prog "strconv.ErrRange" = some #[.iface tp p]
theorem var_below {P : Program} {w w1 : World} {n : String} {cs : Array Value} (h : w.var? P n = some cs) (hb : Below w.heap.size w w1) : w1.var? P n = some cs := by
  unfold World.var? at h ⊢
  cases hg : P.globalNamed n with
  | none => simp [hg] at h
  | some g =>
    simp only [hg, Option.bind_some] at h ⊢
    have hlt : g < w.heap.size := by
      rcases Nat.lt_or_ge g w.heap.size with h' | h'
      · exact h'
      · simp [Array.getElem?_eq_none h'] at h
    rw [hb.block g hlt]
    exact h
theorem GOK.below {w w1 : World} (h : GOK w) (hb : Below w.heap.size w w1) : GOK w1 := by
  obtain ⟨h1, ⟨t2, p2, h2⟩, ⟨t3, p3, h3⟩⟩ := h
  exact ⟨var_below h1 hb, ⟨t2, p2, var_below h2 hb⟩, ⟨t3, p3, var_below h3 hb⟩⟩

/-! numerals, as the kernel reckons them -/
def digK : Nat → Nat → List UInt8
  | 0, _ => []
  | k + 1, u => if u < 10 then [UInt8.ofNat (48 + u)] else digK k (u / 10) ++ [UInt8.ofNat (48 + u % 10)]
def itoaK (n : Int) : List UInt8 := if n < 0 then 45 :: digK 20 n.natAbs else digK 20 n.toNat
theorem digK_eq (k : Nat) : ∀ u, u < 10 ^ k → 0 < k → digK k u = Lib.decDigits u := by
  induction k with
  | zero => intro u h h0; omega
  | succ k ih =>
    intro u h h0
    rw [Lib.decDigits]
    unfold digK
    by_cases c : u < 10
    · rw [if_pos c, dif_pos c]
    · rw [if_neg c, dif_neg c]
      have hk : 0 < k := by
        rcases Nat.eq_zero_or_pos k with rfl | hk
        · simp at h; omega
        · exact hk
      rw [ih (u / 10) (by rw [Nat.pow_succ] at h; omega) hk]
theorem itoaK_eq (n : Int) (h0 : -9223372036854775808 ≤ n) (h1 : n ≤ 9223372036854775807) : Lib.itoa n = itoaK n := by
  unfold Lib.itoa itoaK
  by_cases c : n < 0
  · rw [if_pos c, if_pos c, digK_eq 20 _ (by omega) (by omega)]
  · rw [if_neg c, if_neg c, digK_eq 20 _ (by omega) (by omega)]
/-- what term.Number answers -/
def numF (s : ByteArray) : Int × Bool :=
  match Lib.atoiAll s.data.toList with
  | .ok v => (v, (decide (-32768 ≤ v) && decide (v ≤ 32767)) && itoaK v == s.data.toList)
  | .range => (Lib.atoiSat s.data.toList, false)
  | _ => (0, false)
/-- what term.Digits answers -/
def digF (s : ByteArray) (most : Int) : Int × Bool :=
  match Lib.atoiAll s.data.toList with
  | .ok v => (v, (decide (0 ≤ v) && decide (v ≤ most)) && itoaK v == s.data.toList)
  | .range => (Lib.atoiSat s.data.toList, false)
  | _ => (0, false)
/-- strconv.Atoi, its three ends under one statement: a number, and whether the error is nil -/
def errV (ok : Bool) (N : Nat) : Value := if ok then .nilIface else .iface 117 (.pointer (some ⟨N, 0, none⟩))
def atoiF (s : ByteArray) : Int × Bool :=
  match Lib.atoiAll s.data.toList with
  | .ok v => (v, true)
  | .range => (Lib.atoiSat s.data.toList, false)
  | _ => (0, false)
theorem atoiF_range (s : ByteArray) : -9223372036854775808 ≤ (atoiF s).1 ∧ (atoiF s).1 ≤ 9223372036854775807 := by
  unfold atoiF
  cases h : Lib.atoiAll s.data.toList
  case ok v => exact Lib.atoiAll_bounds h
  case range => unfold Lib.atoiSat; dsimp only; split <;> exact ⟨by decide, by decide⟩
  all_goals exact ⟨(by omega : (-9223372036854775808 : Int) ≤ 0), (by omega : (0 : Int) ≤ 9223372036854775807)⟩
theorem bytesWorld_B {w w' : World} (h : w' = w ∨ ∃ t, w' = Lib.bytesWorld w 5 t) : Below w.heap.size w w' := by
  rcases h with rfl | ⟨t, rfl⟩
  · exact Below.refl _ _
  · exact Lib.bytesWorld_below _ _ _
theorem atoi_calls (s : ByteArray) (hs : s.size ≤ 281474976710656) (w : World) (hG : GOK w) :
    Calls Tryd.prog 75 #[.string s] w fun e w' => (∃ N, e = .returned (.tuple #[.int .i64 (atoiF s).1, errV (atoiF s).2 N])) ∧ Below w.heap.size w w' := by
  obtain ⟨_, ⟨t2, p2, h2⟩, ⟨t3, p3, h3⟩⟩ := hG
  unfold atoiF
  cases h : Lib.atoiAll s.data.toList
  case ok v =>
    refine (Tryd.strconv_Atoi_ok s (by omega) v h w).mono ?_
    rintro e w' ⟨rfl, hw⟩
    exact ⟨⟨0, rfl⟩, bytesWorld_B hw⟩
  case range =>
    refine (Tryd.strconv_Atoi_range_var s hs h t3 p3 w h3).mono ?_
    rintro e w' ⟨N, rfl, _, _, hb⟩
    exact ⟨⟨N, rfl⟩, hb⟩
  all_goals
    refine (Tryd.strconv_Atoi_syntax_var s hs h t2 p2 w h2).mono ?_
    rintro e w' ⟨N, rfl, _, _, hb⟩
    exact ⟨⟨N, rfl⟩, hb⟩
theorem itoa_calls (n : Int) (h0 : -9223372036854775808 ≤ n) (h1 : n ≤ 9223372036854775807) (w : World) (hG : GOK w) :
    Calls Tryd.prog 77 #[.int .i64 n] w fun e w' => e = .returned (.string ⟨(itoaK n).toArray⟩) ∧ Below w.heap.size w w' := by
  refine (Tryd.strconv_Itoa n h0 h1 w hG.tab).mono ?_
  rintro e w' ⟨rfl, k, os, rfl⟩
  exact ⟨by rw [itoaK_eq n h0 h1], Lib.below_grow _ _ (Nat.le_refl _) _ _⟩
end Go.Proofs.YtpbobdgenjhjoaaDoor.G
end
section
namespace Go.Proofs.YtpbobdgenjhjoaaDoor.G
open Go.RowKit Go.Shelf Go.Proofs.YtpbobdgenjhjoaaDoorW.PrintWords Go.Proofs.YtpbobdgenjhjoaaDoorW.PrintLast Go.Proofs.YtpbobdgenjhjoaaDoorW.PrintMore
set_option linter.unusedVariables false
set_option linter.unusedSimpArgs false
theorem below_dn {B : Nat} {a w : World} (h : Below B a w) (n : Nat) : Below B a (w.drewN n) := ⟨h.os, h.tape, h.output, h.size, h.block⟩
/-! words for phrases that the printed walks repeat (tools/shrink.py) -/
theorem hB_ {p : Prop} (x : p := by repeat (first | (with_reducible first | exact HB.out | apply below_alloc | apply pw_below_drewN | apply below_drew1) | exact HB.out)) : p := x
theorem hS_ {p : Prop} (x : p := by exact below_size (by repeat (first | (with_reducible first | exact HB.out | apply below_alloc | apply pw_below_drewN | apply below_drew1) | exact HB.out))) : p := x
theorem hG_ {p : Prop} (x : p := by first | exact hG | exact GOK.below hG (by repeat (first | (with_reducible first | exact HB.out | apply below_alloc | apply pw_below_drewN | apply below_drew1) | exact HB.out))) : p := x
theorem hA_ {p : Prop} (x : p := by first | (with_reducible assumption) | assumption) : p := x
theorem hL_ {p : Prop} (x : p := by (try simp only [List.map_toArray, List.map_cons, List.map_nil]); first | done | rfl | (simp only [List.length_drop, List.length_take]; rfl)) : p := x
theorem hN_ {p q : Prop} (h : q) (x : q → p := by intro hN0_; (with_reducible repeat (first | apply Kd.N_alloc | apply Kd.N_drewN | apply Kd.N_drew)); exact hN0_) : p := x h
theorem hR_ {p q : Prop} (h : q) (x : q → p := by intro hN0_; (with_reducible repeat (first | apply Kd.R_alloc | apply Kd.R_drewN | apply Kd.R_drew)); exact hN0_) : p := x h
/-! a region that draws its order, whose first n operations only read, and whose others come one behind the other -/
def tailB (ops : Array Oper) : Nat → Nat → Array Bool → Bool
  | 0, _, m => (Region.ready .any ops m).isEmpty
  | g + 1, k, m => decide (Region.ready .any ops m = [k]) && tailB ops g (k + 1) (m.setIfInBounds k true)
def guardB (n : Nat) (o : Oper) : Bool := match o.guard with | none => true | some (j, _) => decide (j < n)
def depB (ops : Array Oper) (n : Nat) : Bool := (List.range n).all fun k => match ops[k]? with | some o => o.after.all fun e => !Region.binds .any e || decide (e.on < k) | none => false
def doneM (s n : Nat) : Array Bool := ((List.replicate n true) ++ (List.replicate (s - n) false)).toArray
def headAllB (l : List Oper) (n : Nat) : Bool :=
  decide (n < l.length) && (l.take n).all (guardB n) && Region.noSelect (l.take n).toArray && Region.lexB .any (l.take n).toArray && depB (l.take n).toArray n && Region.sinkB .any l.toArray n && Region.chainB .any l.toArray n && tailB l.toArray (l.length - n) n (doneM l.length n)
section
variable {F : Fence} {r : Nat} {P : Program} {Q' : Exit → Act → World → Prop} {C : World → Prop} {Q : Act → Prop}
theorem any_of_tail {ops : Array Oper} (x : Nat) : ∀ (l : List Oper) (k : Nat) (m : Array Bool) (a : Act) (w : World), (∀ j, l[j]? = ops[k + j]?) → tailB ops l.length k m = true → wpListIn F r P ops Q' l a w → wpAnyIn F r P .any ops Q' (l.length + x) m a w
  | [], k, m, a, w, _, hB, h => wpAnyIn_done (by simpa [tailB] using hB) h _
  | o :: l, k, m, a, w, hl, hB, h => by
    have h0 : ops[k]? = some o := by simpa using (hl 0).symm
    simp only [List.length_cons, tailB, Bool.and_eq_true, decide_eq_true_eq] at hB
    rw [List.length_cons, show l.length + 1 + x = (l.length + x) + 1 by omega]
    refine And.intro (fun h1 => absurd (hB.1.symm.trans h1) (by simp)) (fun i hi => ?_)
    rw [hB.1, List.mem_singleton] at hi
    subst hi
    refine wpOpIn_mono (K := wpListIn F r P ops Q' l) (fun a' w' h' => any_of_tail x l (i + 1) _ a' w' (fun j => by have := hl (j + 1); simpa [Nat.add_assoc, Nat.add_comm 1 j] using this) hB.2 h') ?_
    unfold wpOpIn
    rw [h0]
    exact h
theorem op_of_head {ops opsH : Array Oper} {n i : Nat} (hi : i < n) (heq : ∀ j, j < n → ops[j]? = opsH[j]?) (hg : ∀ o, opsH[i]? = some o → guardB n o = true) {K : Act → World → Prop} {a : Act} {w : World} (h : wpOpIn F r P opsH Q' i K a w) : wpOpIn F r P ops Q' i K a w := by
  unfold wpOpIn at h ⊢
  rw [heq i hi]
  cases ho : opsH[i]? with
  | none => rw [ho] at h; exact h
  | some o =>
    rw [ho] at h
    have hw : Region.wanted o (yielded ops a.tmps) = Region.wanted o (yielded opsH a.tmps) := by
      have h1 := hg o ho
      unfold guardB at h1
      unfold Region.wanted
      cases hgd : o.guard with
      | none => rfl
      | some p =>
        obtain ⟨j, b⟩ := p
        rw [hgd] at h1
        have : yielded ops a.tmps j = yielded opsH a.tmps j := by unfold yielded; rw [heq j (of_decide_eq_true h1)]
        simp only [this]
    simp only [hw]
    exact h
theorem getD_size {m : Array Bool} {j : Nat} {d d' : Bool} (h : j < m.size) : m.getD j d = m.getD j d' := by simp [h]
theorem head_listed {opsH : Array Oper} {n : Nat} (hd : depB opsH n = true) {mH : Array Bool} (hsz : mH.size = n) (hr : Region.ready .any opsH mH = []) : ∀ j, j < n → mH.getD j false = true := by
  intro j
  induction j using Nat.strongRecOn with
  | _ j ih =>
    intro hj
    cases hv : mH.getD j false with
    | true => rfl
    | false =>
      exfalso
      have hk := List.all_eq_true.1 hd j (List.mem_range.2 hj)
      cases ho : opsH[j]? with
      | none => rw [ho] at hk; simp at hk
      | some o =>
        rw [ho] at hk
        have : j ∈ Region.ready .any opsH mH := mem_ready.2 ⟨(getD_size (by omega)).trans hv, o, ho, fun e he hb => by
          have h1 := Array.all_eq_true'.1 hk e he
          rw [hb] at h1
          simp only [Bool.not_true, Bool.false_or, decide_eq_true_eq] at h1
          exact ih e.on h1 (by omega)⟩
        rw [hr] at this
        cases this
theorem doneM_eq {s n : Nat} (hn : n ≤ s) {m : Array Bool} (hm : m.size = s) (h1 : ∀ j, j < n → m.getD j false = true) (h2 : ∀ t, n ≤ t → t < s → m.getD t true = false) : m = doneM s n := by
  unfold doneM
  apply Array.ext
  · simp [hm]; omega
  · intro i hi1 hi2
    have e1 : ((List.replicate n true) ++ (List.replicate (s - n) false)).toArray[i] = ((List.replicate n true) ++ (List.replicate (s - n) false))[i]'(by simpa using hi2) := by simp
    rw [e1]
    rcases Nat.lt_or_ge i n with c | c
    · have := h1 i c
      rw [List.getElem_append_left (by simpa using c), List.getElem_replicate]
      simpa [hi1] using this
    · have := h2 i c (by omega)
      rw [List.getElem_append_right (by simpa using c), List.getElem_replicate]
      simpa [hi1] using this
theorem head_sim (hro : F.round = none) {ops opsH : Array Oper} {n g : Nat} (hn : n < ops.size) (hszH : opsH.size = n) (heq : ∀ j, j < n → ops[j]? = opsH[j]?) (hg : ∀ (i : Nat) (o : Oper), opsH[i]? = some o → guardB n o = true) (hd : depB opsH n = true)
    (hs : Region.sinkB .any ops n = true) (hc : Region.chainB .any ops n = true)
    (hT : ∀ x a w, C w → Q a → wpAnyIn F r P .any ops Q' (g + x) (doneM ops.size n) a w) :
    ∀ (f : Nat) (m mH : Array Bool) (a : Act) (w : World), HeadInv .any ops n m → mH.size = n → (∀ j, j < n → m.getD j false = mH.getD j false) → C w → wpAnyQIn F r P .any opsH C Q f mH a → wpAnyIn F r P .any ops Q' (f + g) m a w := by
  have fin : ∀ (m mH : Array Bool), HeadInv .any ops n m → mH.size = n → (∀ j, j < n → m.getD j false = mH.getD j false) → Region.ready .any opsH mH = [] → m = doneM ops.size n := fun m mH inv hsz hrel hr =>
    doneM_eq (by omega) inv.size (fun j hj => (hrel j hj).trans (head_listed hd hsz hr j hj)) inv.tail
  intro f
  induction f with
  | zero =>
    intro m mH a w inv hsz hrel hC h
    rw [fin m mH inv hsz hrel h.1, Nat.zero_add]
    exact hT 0 a w hC h.2
  | succ f ih =>
    intro m mH a w inv hsz hrel hC h
    by_cases hr : Region.ready .any opsH mH = []
    · rw [fin m mH inv hsz hrel hr, Nat.add_comm (f + 1) g]
      exact hT (f + 1) a w hC (h.1 hr)
    · obtain ⟨i0, hi0⟩ := List.exists_mem_of_ne_nil _ hr
      have hlt0 : ∀ i, i ∈ Region.ready .any opsH mH → i < n ∧ i ∈ Region.ready .any ops m := fun i hi => by
        obtain ⟨h1, o, ho, h2⟩ := mem_ready.1 hi
        have hin : i < n := by have := (Array.getElem?_eq_some_iff.1 ho).1; omega
        refine ⟨hin, mem_ready.2 ⟨?_, o, (heq i hin).trans ho, fun e he hb => ?_⟩⟩
        · rw [getD_size (d' := false) (by rw [inv.size]; omega), hrel i hin, getD_size (d' := true) (by omega)]; exact h1
        · have h3 := h2 e he hb
          have : e.on < n := by
            rcases Nat.lt_or_ge e.on n with c | c
            · exact c
            · rw [Array.getD_eq_getD_getElem?, Array.getElem?_eq_none (by omega)] at h3; simp at h3
          rw [hrel e.on this]; exact h3
      have hun : ∀ t, n ≤ t → t ∉ Region.ready .any ops m := tail_waits hs hc hn inv (n - i0) i0 rfl (hlt0 i0 hi0).1 (mem_ready.1 (hlt0 i0 hi0).2).1
      have hback : ∀ i, i ∈ Region.ready .any ops m → i < n ∧ i ∈ Region.ready .any opsH mH := fun i hi => by
        have hin : i < n := by
          rcases Nat.lt_or_ge i n with c | c
          · exact c
          · exact absurd hi (hun i c)
        obtain ⟨h1, o, ho, h2⟩ := mem_ready.1 hi
        refine ⟨hin, mem_ready.2 ⟨?_, o, (heq i hin).symm.trans ho, fun e he hb => ?_⟩⟩
        · rw [getD_size (d' := false) (by omega), ← hrel i hin, getD_size (d' := true) (by rw [inv.size]; omega)]; exact h1
        · have h3 := h2 e he hb
          have : e.on < n := by
            have hk := List.all_eq_true.1 hd i (List.mem_range.2 hin)
            rw [(heq i hin).symm.trans ho] at hk
            have h4 := Array.all_eq_true'.1 hk e he
            rw [hb] at h4
            simp only [Bool.not_true, Bool.false_or, decide_eq_true_eq] at h4
            omega
          rw [← hrel e.on this]; exact h3
      rw [show f + 1 + g = (f + g) + 1 by omega]
      refine And.intro (fun h0 => absurd ((hlt0 i0 hi0).2) (by rw [h0]; simp)) (fun i hi => ?_)
      obtain ⟨hin, hiH⟩ := hback i hi
      have hq := h.2 i hiH
      refine op_of_head hin heq (hg i) (wpOpIn_of_qOpIn (Q' := Q') hro hC (fun a' w' hw' h' => ih _ _ a' w' (inv.set hi hin) (by simpa using hsz) (fun j hj => ?_) hw' h') hq)
      by_cases hij : i = j
      · subst hij
        simp [inv.size, hsz, hin]
        try omega
      · rw [getD_set_ne false hij, getD_set_ne false hij]; exact hrel j hj
theorem wpIn_region_head {id : Nat} {a : Act} {w : World} {l : List Oper} (n : Nat) (hro : F.round = none) (hm : P.follows .mixedOrders = true) (hB : headAllB l n = true)
    (h : wpQuietIn F r P (l.take n).toArray (fun w' => ∃ k, w' = w.drewN k) (fun a' => ∀ w', (∃ k, w' = w.drewN k) → wpListIn F r P l.toArray Q' (l.drop n) a' w') (l.take n) a) : (Code.region id l.toArray true).wpIn F r P Q' a w := by
  simp only [headAllB, Bool.and_eq_true, decide_eq_true_eq] at hB
  obtain ⟨⟨⟨⟨⟨⟨⟨hn, hg⟩, hs⟩, hlex⟩, hd⟩, hsk⟩, hch⟩, htb⟩ := hB
  have htl : (l.take n).length = n := by rw [List.length_take, Nat.min_eq_left (by omega)]
  have hdl : (l.drop n).length = l.length - n := List.length_drop
  simp only [Region.lexB, Bool.and_eq_true] at hlex
  have H := wpAnyQIn_lex (F := F) (n := r) (P := P) (md := .any) hs (l.take n) 0 (Array.replicate (l.take n).toArray.size false) a (by simp) (by simpa using hlex.2) h
  rw [htl] at H
  have heq : ∀ j, j < n → l.toArray[j]? = (l.take n).toArray[j]? := fun j hj => by simp [hj]
  have hg' : ∀ (i : Nat) (o : Oper), (l.take n).toArray[i]? = some o → guardB n o = true := fun i o ho => List.all_eq_true.1 hg o (List.mem_of_getElem? (i := i) (by rw [List.getElem?_toArray] at ho; exact ho))
  have inv0 : HeadInv .any l.toArray n (Array.replicate l.length false) :=
    ⟨by simp, fun j oj _ hl => (by rw [getD_replicate_false] at hl; cases hl), fun t _ ht => getD_in (by simpa using ht) (getD_replicate_false _ _)⟩
  have := head_sim (Q' := Q') (C := fun w' => ∃ k, w' = w.drewN k) (Q := fun a' => ∀ w', (∃ k, w' = w.drewN k) → wpListIn F r P l.toArray Q' (l.drop n) a' w') hro (ops := l.toArray) (g := l.length - n) (by simpa using hn) (by simp; omega) heq hg' hd hsk hch (fun x a' w' hC' hQ => by
    have := any_of_tail (F := F) (r := r) (P := P) (Q' := Q') (ops := l.toArray) x (l.drop n) n (doneM l.length n) a' w' (fun j => by simp [List.getElem?_drop]) (by rw [hdl]; exact htb) (hQ w' hC')
    rw [hdl] at this
    rw [List.size_toArray]
    exact this) n (Array.replicate l.length false) (Array.replicate (l.take n).toArray.size false) a (w.drewN 1) inv0 (by simp; omega) (fun j hj => by rw [getD_replicate_false, getD_replicate_false]) ⟨1, rfl⟩ H
  rw [show n + (l.length - n) = l.length by omega] at this
  exact wpIn_region_any hm (by rw [List.size_toArray]; exact this)
end
end Go.Proofs.YtpbobdgenjhjoaaDoor.G
end
section
-- Cut by the session's own program (prune.py) out of the kit's printed words: what this seat's claims name.
namespace Go.Proofs.YtpbobdgenjhjoaaDoorW.PrintLast
open Go.Proofs.YtpbobdgenjhjoaaDoorW.PrintWords (Aside0)
def needsOf (md : Region.Mode) (o : Oper) : List Nat := (o.after.toList.filter (fun e => Region.binds md e)).map (fun e => e.on)
def clashOf (md : Region.Mode) (ops : Array Oper) (i : Nat) (oi : Oper) : List Nat := (List.range ops.size).filter fun j => !(j == i) && match ops[j]? with
  | some oj => !(oj.after.any (fun e => Region.binds md e && e.on == i) || oi.apart ops oj)
  | none => false
/-- No select in it; for each operation: what must have come up before it, and what may not come up behind it if it is taken first. -/
def rtab (md : Region.Mode) (ops : Array Oper) : Bool × List (List Nat × List Nat) := (Region.noSelect ops, (List.range ops.size).map fun i => match ops[i]? with
  | some o => (needsOf md o, clashOf md ops i o)
  | none => ([], []))
def readyAt (T : List (List Nat × List Nat)) (l : List Bool) (i : Nat) : Bool := !l.getD i true && match T[i]? with
  | some r => r.1.all (fun j => l.getD j false)
  | none => false
def readyT (T : List (List Nat × List Nat)) (l : List Bool) : List Nat := (List.range T.length).filter (readyAt T l)
def freeT (T : List (List Nat × List Nat)) (l : List Bool) (i : Nat) : Bool := match T[i]? with
  | some r => r.2.all (fun j => l.getD j true)
  | none => false
def closedT (T : List (List Nat × List Nat)) (l : List Bool) : Bool := (List.range T.length).all fun j => !l.getD j false || match T[j]? with
  | some r => r.1.all (fun k => l.getD k false)
  | none => true
def reachT (T : List (List Nat × List Nat)) (i : Nat) : Nat → Nat → Bool
  | 0, _ => false
  | fuel + 1, d => match T[d]? with
    | some r => r.1.any fun j => j == i || reachT T i fuel j
    | none => false
def lastT (T : List (List Nat × List Nat)) (l : List Bool) (ds : List Nat) (i : Nat) : Bool := ds.all fun d => l.getD d true || reachT T i T.length d
section
variable {md : Region.Mode} {ops : Array Oper} {T : Bool × List (List Nat × List Nat)} {l l' li lj lk : Array Bool} {ds : List Nat} {i j k : Nat}
theorem gd (l : Array Bool) (j : Nat) (b : Bool) : l.getD j b = l.toList.getD j b := by simp [Array.getD_eq_getD_getElem?, List.getD_eq_getElem?_getD]
theorem needs_all (o : Oper) (p : Nat → Bool) : o.after.all (fun e => !Region.binds md e || p e.on) = (needsOf md o).all p := by
  unfold needsOf
  rw [← Array.all_toList]
  induction o.after.toList with
  | nil => rfl
  | cons e r ih =>
    rw [List.all_cons, ih, List.filter_cons]
    cases h : Region.binds md e <;> simp
theorem needs_any (o : Oper) (p : Nat → Bool) : o.after.any (fun e => Region.binds md e && p e.on) = (needsOf md o).any p := by
  unfold needsOf
  rw [← Array.any_toList]
  induction o.after.toList with
  | nil => rfl
  | cons e r ih =>
    rw [List.any_cons, ih, List.filter_cons]
    cases h : Region.binds md e <;> simp
theorem rtab_length : (rtab md ops).2.length = ops.size := by simp [rtab]
theorem rtab_some {o : Oper} (h : ops[i]? = some o) : (rtab md ops).2[i]? = some (needsOf md o, clashOf md ops i o) := by
  have hi := (Array.getElem?_eq_some_iff.1 h).1
  unfold rtab
  rw [List.getElem?_map, List.getElem?_range hi, Option.map_some, h]
theorem rtab_none (h : ops[i]? = none) : (rtab md ops).2[i]? = none := by
  have hi : ops.size ≤ i := Array.getElem?_eq_none_iff.1 h
  exact List.getElem?_eq_none (by rw [rtab_length]; exact hi)
theorem readyAt_eq : readyAt (rtab md ops).2 l.toList i = (!l.getD i true && ((ops[i]?).map (·.after.all fun e => !Region.binds md e || l.getD e.on false)).getD false) := by
  unfold readyAt
  rw [gd]
  cases h : ops[i]? with
  | none => rw [rtab_none h]; rfl
  | some o =>
    rw [rtab_some h]
    simp only [Option.map_some, Option.getD_some]
    rw [← needs_all]
    simp only [gd]
theorem ready_eq : Region.ready md ops l = readyT (rtab md ops).2 l.toList := by
  unfold Region.ready readyT
  rw [rtab_length]
  refine List.filter_congr (fun i _ => ?_)
  rw [readyAt_eq]
theorem free_eq : Region.free md ops l i = freeT (rtab md ops).2 l.toList i := by
  unfold Region.free freeT
  cases h : ops[i]? with
  | none => rw [rtab_none h]
  | some oi =>
    rw [rtab_some h]
    simp only [clashOf]
    rw [List.all_filter]
    congr 1
    funext j
    rw [gd]
    cases hj : ops[j]? with
    | none => cases (j == i) <;> cases (l.toList.getD j true) <;> simp
    | some oj =>
      cases (j == i) <;> cases (l.toList.getD j true) <;> cases (oj.after.any (fun e => Region.binds md e && e.on == i) || oi.apart ops oj) <;> simp_all
theorem closed_eq : Region.closedB md ops l = closedT (rtab md ops).2 l.toList := by
  unfold Region.closedB closedT
  rw [rtab_length]
  congr 1
  funext j
  rw [gd]
  cases h : ops[j]? with
  | none => rw [rtab_none h]
  | some o =>
    rw [rtab_some h]
    simp only
    rw [← needs_all]
    simp only [gd]
theorem reach_eq : ∀ (fuel d : Nat), Region.reachB md ops i fuel d = reachT (rtab md ops).2 i fuel d
  | 0, _ => rfl
  | fuel + 1, d => by
    unfold Region.reachB reachT
    cases h : ops[d]? with
    | none => rw [rtab_none h]
    | some o =>
      rw [rtab_some h]
      simp only
      rw [← needs_any]
      congr 1
      funext e
      rw [reach_eq fuel]
theorem last_eq : Region.lastB md ops l ds i = lastT (rtab md ops).2 l.toList ds i := by
  unfold Region.lastB lastT
  rw [rtab_length]
  congr 1
  funext d
  rw [gd, reach_eq]
theorem readyAt_mem (h : readyAt T.2 l.toList i = true) (hT : rtab md ops = T) : (Region.ready md ops l).contains i = true := by
  subst hT
  rw [ready_eq]
  unfold readyT
  rw [List.contains_iff_mem, List.mem_filter, List.mem_range]
  refine ⟨?_, h⟩
  unfold readyAt at h
  rw [Bool.and_eq_true] at h
  cases hq : (rtab md ops).2[i]? with
  | none => rw [hq] at h; simp at h
  | some r => exact (List.getElem?_eq_some_iff.1 hq).1
theorem set_of (h : (l.toList.set i true == l'.toList) = true) : (l.setIfInBounds i true == l') = true := by
  rw [beq_iff_eq] at h ⊢
  apply Array.ext'
  rw [Array.toList_setIfInBounds]
  exact h
def anyT (T : Bool × List (List Nat × List Nat)) (l l' : List Bool) (i : Nat) : Bool := T.1 && freeT T.2 l i && readyAt T.2 l i && (l.set i true == l')
/-- pure_'s condition out of the table. -/
theorem any_of (hT : rtab md ops = T) (h : anyT T l.toList l'.toList i = true) : anyB md ops l l' i = true := by
  simp only [anyT, Bool.and_eq_true] at h
  obtain ⟨⟨⟨h1, h2⟩, h3⟩, h4⟩ := h
  have h5 := readyAt_mem h3 hT
  have h6 := set_of h4
  subst hT
  simp only [anyB, Bool.and_eq_true]
  exact ⟨⟨⟨h1, by rw [free_eq]; exact h2⟩, h5⟩, h6⟩
def takeT (T : Bool × List (List Nat × List Nat)) (ds : List Nat) (l l' : List Bool) (i : Nat) : Bool := T.1 && freeT T.2 l i && readyAt T.2 l i && closedT T.2 l && lastT T.2 l ds i && (l.set i true == l')
/-- take_'s. -/
theorem take_of (hT : rtab md ops = T) (h : takeT T ds l.toList l'.toList i = true) : takeB md ops ds l l' i = true := by
  simp only [takeT, Bool.and_eq_true] at h
  obtain ⟨⟨⟨⟨⟨h1, h2⟩, h3⟩, h4⟩, h5⟩, h6⟩ := h
  have h7 := readyAt_mem h3 hT
  have h8 := set_of h6
  subst hT
  simp only [takeB, Bool.and_eq_true]
  exact ⟨⟨⟨⟨⟨h1, by rw [free_eq]; exact h2⟩, h7⟩, by rw [closed_eq]; exact h4⟩, by rw [last_eq]; exact h5⟩, h8⟩
/-- one_'s and last_'s. -/
theorem one_of (hT : rtab md ops = T) (h : (readyT T.2 l.toList == [i] && l.toList.set i true == l'.toList) = true) : readyB md ops l l' i = true := by
  simp only [Bool.and_eq_true] at h
  obtain ⟨h1, h2⟩ := h
  subst hT
  simp only [readyB, Bool.and_eq_true]
  exact ⟨by rw [ready_eq]; exact h1, set_of h2⟩
/-- done_'s. -/
theorem done_of (hT : rtab md ops = T) (h : (readyT T.2 l.toList == []) = true) : (Region.ready md ops l == []) = true := by
  subst hT
  rw [ready_eq]
  exact h
/-- What d waits for, as_ bits: told in the table (B), checked in one pass: each bit is a need of d, or a bit of an earlier need's. -/
def upM (B : List Nat) (d : Nat) : List Nat → Nat
  | [] => 0
  | n :: r => (2 ^ n ||| (if n < d then B.getD n 0 else 0)) ||| upM B d r
def waitsOk (T : List (List Nat × List Nat)) (B : List Nat) : Bool := (List.range T.length).all fun d => match T[d]? with
  | some r => (B.getD d 0 ||| upM B d r.1) == upM B d r.1
  | none => false
theorem upM_bit {B : List Nat} {d i : Nat} : ∀ {ns : List Nat}, (upM B d ns).testBit i = true → ∃ n ∈ ns, n = i ∨ (n < d ∧ (B.getD n 0).testBit i = true)
  | [], h => by simp [upM] at h
  | n :: r, h => by
    unfold upM at h
    rw [Nat.testBit_or, Nat.testBit_or, Bool.or_eq_true, Bool.or_eq_true] at h
    rcases h with (h | h) | h
    · rw [Nat.testBit_two_pow] at h
      exact ⟨n, List.mem_cons_self, .inl (by simpa using h)⟩
    · by_cases hn : n < d
      · rw [if_pos hn] at h
        exact ⟨n, List.mem_cons_self, .inr ⟨hn, h⟩⟩
      · rw [if_neg hn] at h
        simp at h
    · obtain ⟨m, hm, h2⟩ := upM_bit h
      exact ⟨m, List.mem_cons_of_mem _ hm, h2⟩
theorem reach_bit {T : List (List Nat × List Nat)} {B : List Nat} (hB : waitsOk T B = true) : ∀ (fuel d : Nat), d < fuel → d < T.length → (B.getD d 0).testBit i = true → reachT T i fuel d = true
  | 0, d, h, _, _ => by omega
  | fuel + 1, d, h, hd, hb => by
    have h1 := List.all_eq_true.1 hB d (List.mem_range.2 hd)
    cases hr : T[d]? with
    | none => rw [hr] at h1; simp at h1
    | some r =>
      rw [hr] at h1
      simp only [beq_iff_eq] at h1
      have h2 : (upM B d r.1).testBit i = true := by rw [← h1, Nat.testBit_or, hb, Bool.true_or]
      obtain ⟨n, hn, h3⟩ := upM_bit h2
      unfold reachT
      rw [hr]
      simp only
      rw [List.any_eq_true]
      refine ⟨n, hn, ?_⟩
      rcases h3 with rfl | ⟨h4, h5⟩
      · simp
      · rw [reach_bit hB fuel n (by omega) (by omega) h5, Bool.or_true]
def lastW (T : List (List Nat × List Nat)) (B : List Nat) (l : List Bool) (ds : List Nat) (i : Nat) : Bool := ds.all fun d => l.getD d true || (decide (d < T.length) && (B.getD d 0).testBit i)
def takeW (T : Bool × List (List Nat × List Nat)) (B : List Nat) (ds : List Nat) (l l' : List Bool) (i : Nat) : Bool := T.1 && freeT T.2 l i && readyAt T.2 l i && closedT T.2 l && lastW T.2 B l ds i && (l.set i true == l')
/-- take_'s, by the bits. -/
theorem take_ofW {B : List Nat} (hT : rtab md ops = T) (hB : waitsOk T.2 B = true) (h : takeW T B ds l.toList l'.toList i = true) : takeB md ops ds l l' i = true := by
  refine take_of hT ?_
  simp only [takeW, takeT, Bool.and_eq_true] at h ⊢
  obtain ⟨⟨⟨⟨⟨h1, h2⟩, h3⟩, h4⟩, h5⟩, h6⟩ := h
  refine ⟨⟨⟨⟨⟨h1, h2⟩, h3⟩, h4⟩, ?_⟩, h6⟩
  unfold lastW at h5
  unfold lastT
  rw [List.all_eq_true] at h5 ⊢
  intro d hd
  have h7 := h5 d hd
  rw [Bool.or_eq_true, Bool.and_eq_true, decide_eq_true_eq] at h7
  rcases h7 with h7 | ⟨h8, h9⟩
  · rw [h7, Bool.true_or]
  · rw [reach_bit hB _ d h8 h8 h9, Bool.or_true]
theorem with_tabW {P : Program} {Q : Exit → Act → World → Prop} {S : World → Prop} {n : Nat} {a : Act} {w : World} {B : List Nat} (hT : rtab md ops = T) (hB : waitsOk T.2 B = true) (h : Aside0 (rtab md ops = T) → Aside0 (waitsOk T.2 B = true) → wpAnyLast P md ops Q S ds n l a w) : wpAnyLast P md ops Q S ds n l a w := h ⟨hT⟩ ⟨hB⟩
end
/-- The operations of a region, by its number. -/
def opsIn : Code → Nat → Option (Array Oper)
  | .region id ops _, k => if id == k then some ops else none
  | .seq a b, k => match opsIn a k with
    | some o => some o
    | none => opsIn b k
  | .cond _ a b, k => match opsIn a k with
    | some o => some o
    | none => opsIn b k
  | .block _ c, k => opsIn c k
  | .loop c, k => opsIn c k
  | .scope c, k => opsIn c k
  | .rangeFunc _ _ a b, k => match opsIn a k with
    | some o => some o
    | none => opsIn b k
  | _, _ => none
def opsOf (f : Func) (k : Nat) : Array Oper := ((f.body.bind fun c => opsIn c k)).getD #[]
end Go.Proofs.YtpbobdgenjhjoaaDoorW.PrintLast
end
section
-- Cut by the session's own program (prune.py) out of the kit's printed words: what this seat's claims name.
namespace Go.Proofs.YtpbobdgenjhjoaaDoorW.PrintLast
section
variable {P : Program} {ops : Array Oper} {Q : Exit → Act → World → Prop} {md : Region.Mode} {S : World → Prop} {ds : List Nat} {T : Bool × List (List Nat × List Nat)}
end
end Go.Proofs.YtpbobdgenjhjoaaDoorW.PrintLast
end
section
-- Cut by the session's own program (prune.py) out of the kit's printed words: what this seat's claims name.
namespace Go.Proofs.YtpbobdgenjhjoaaDoorW.PrintWords
open Go.RowKit
namespace Kd
section
variable {α : Type} {d : Kd α} {W : World} {g n : Nat} {S ok : Nat → Prop} {A : Option Addr} {ad : Addr} {xs : List α}
end
end Kd
end Go.Proofs.YtpbobdgenjhjoaaDoorW.PrintWords
end
section
-- Cut by the session's own program (prune.py) out of the kit's printed words: what this seat's claims name.
namespace Go.Proofs.YtpbobdgenjhjoaaDoorW.PrintWords
open Go.RowKit
section
variable {w w' u : World} {m B g : Nat} {o : Obj} {row : Option Nat} {S : Nat → Prop} {a : Addr} {v : Value}
end
namespace Kd
section
variable {α : Type} {d : Kd α} {e base n m : Nat} {ok : Nat → Prop} {w w' : World} {v : Value} {A : Option Addr} {xs : List α}
end
end Kd
end Go.Proofs.YtpbobdgenjhjoaaDoorW.PrintWords
end
section
-- Cut by the session's own program (prune.py) out of the kit's printed words: what this seat's claims name.
namespace Go.Proofs.YtpbobdgenjhjoaaDoorW.PrintWords
open Go.RowKit
section
variable {P : Program} {d : Nat} {xs ys : Array Value} {f : Field} {fs : List Field} {a b : Value} {r s : Bool} {w : World}
/-- The last field that counts. -/
theorem eqf_last (hn : (f.name == "_") = false) (ha : (part f.type xs f.offset).run P w = .ok a w) (hb : (part f.type ys f.offset).run P w = .ok b w) (he : (Op.equalIn d f.type a b).run P w = .ok r w) : (Op.eqFields d xs ys [f]).run P w = .ok r w := by
  have hn' : f.name ≠ "_" := by simpa using hn
  simp only [Op.eqFields, if_pos hn', Sem.run_bind, ha, hb, he, Result.andThen_ok]
  cases r <;> simp
theorem eqf_cons (hn : (f.name == "_") = false) (ha : (part f.type xs f.offset).run P w = .ok a w) (hb : (part f.type ys f.offset).run P w = .ok b w) (he : (Op.equalIn d f.type a b).run P w = .ok r w) (hr : (Op.eqFields d xs ys fs).run P w = .ok s w) : (Op.eqFields d xs ys (f :: fs)).run P w = .ok (r && s) w := by
  have hn' : f.name ≠ "_" := by simpa using hn
  rw [Op.eqFields]
  simp only [if_pos hn', Sem.run_bind, ha, hb, he, Result.andThen_ok]
  cases r
  · simp
  · simpa using hr
theorem eqA_of {t : TypeId} {fs : Array Field} (hu : P.underlying t = some (.struct fs)) (hp : P.stoodInHeld t = false) (h : (Op.eqFields d xs ys fs.toList).run P w = .ok r w) : (Op.equalIn (d + 1) t (.agg xs) (.agg ys)).run P w = .ok r w := by
  have hf : P.fieldsOf t = fs := by simp [Program.fieldsOf, hu]
  rw [run_equalIn_struct (P := P) w d t xs ys (by rw [hf]; exact hu) hp, hf]
  exact h
end
end Go.Proofs.YtpbobdgenjhjoaaDoorW.PrintWords
end
section
-- Cut by the session's own program (prune.py) out of the kit's printed words: what this seat's claims name.
namespace Go.Proofs.YtpbobdgenjhjoaaDoorW.PrintWords
/-- One cell an element. -/
theorem Reps.one {α : Type} {R : α → List Value → Prop} {ps : List α} {cs : List Value} {p : α} {v : Value} (hp : R p [v]) (h : Reps R 1 ps cs) : Reps R 1 (p :: ps) (v :: cs) := by
  refine ⟨by simp [h.1], fun j q hq => ?_⟩
  cases j with
  | zero =>
    simp only [List.getElem?_cons_zero, Option.some.injEq] at hq
    subst hq
    simpa using hp
  | succ j =>
    simp only [List.getElem?_cons_succ] at hq
    have h1 := h.2 j q hq
    simpa [Nat.mul_one] using h1
/-- More cells an element: told apart by the cells' list. -/
theorem Reps.front {α : Type} {R : α → List Value → Prop} {size : Nat} {ps : List α} {cs c all : List Value} {p : α} (hp : R p c) (hc : c.length = size) (h : Reps R size ps cs) (ha : c ++ cs = all) : Reps R size (p :: ps) all := by
  subst ha
  refine ⟨by rw [List.length_append, hc, h.1, List.length_cons, Nat.succ_mul, Nat.add_comm], fun j q hq => ?_⟩
  cases j with
  | zero =>
    simp only [List.getElem?_cons_zero, Option.some.injEq] at hq
    subst hq
    rw [Nat.zero_mul, List.drop_zero, List.take_append_of_le_length (by omega), List.take_of_length_le (by omega)]
    exact hp
  | succ j =>
    simp only [List.getElem?_cons_succ] at hq
    have h1 := h.2 j q hq
    rw [Nat.succ_mul, List.drop_append, List.drop_of_length_le (by rw [hc]; exact Nat.le_add_left _ _), List.nil_append, hc, Nat.add_sub_cancel]
    exact h1
theorem Reps.c2 {α : Type} {R : α → List Value → Prop} {ps : List α} {cs : List Value} {p : α} {va vb : Value} (hp : R p [va, vb]) (h : Reps R 2 ps cs) : Reps R 2 (p :: ps) (va :: vb :: cs) := Reps.front hp rfl h rfl
theorem Reps.c3 {α : Type} {R : α → List Value → Prop} {ps : List α} {cs : List Value} {p : α} {va vb vc : Value} (hp : R p [va, vb, vc]) (h : Reps R 3 ps cs) : Reps R 3 (p :: ps) (va :: vb :: vc :: cs) := Reps.front hp rfl h rfl
theorem Reps.c4 {α : Type} {R : α → List Value → Prop} {ps : List α} {cs : List Value} {p : α} {va vb vc vd : Value} (hp : R p [va, vb, vc, vd]) (h : Reps R 4 ps cs) : Reps R 4 (p :: ps) (va :: vb :: vc :: vd :: cs) := Reps.front hp rfl h rfl
theorem Reps.c5 {α : Type} {R : α → List Value → Prop} {ps : List α} {cs : List Value} {p : α} {va vb vc vd ve : Value} (hp : R p [va, vb, vc, vd, ve]) (h : Reps R 5 ps cs) : Reps R 5 (p :: ps) (va :: vb :: vc :: vd :: ve :: cs) := Reps.front hp rfl h rfl
theorem Reps.c6 {α : Type} {R : α → List Value → Prop} {ps : List α} {cs : List Value} {p : α} {va vb vc vd ve vf : Value} (hp : R p [va, vb, vc, vd, ve, vf]) (h : Reps R 6 ps cs) : Reps R 6 (p :: ps) (va :: vb :: vc :: vd :: ve :: vf :: cs) := Reps.front hp rfl h rfl
theorem Reps.c7 {α : Type} {R : α → List Value → Prop} {ps : List α} {cs : List Value} {p : α} {va vb vc vd ve vf vg : Value} (hp : R p [va, vb, vc, vd, ve, vf, vg]) (h : Reps R 7 ps cs) : Reps R 7 (p :: ps) (va :: vb :: vc :: vd :: ve :: vf :: vg :: cs) := Reps.front hp rfl h rfl
theorem Reps.c8 {α : Type} {R : α → List Value → Prop} {ps : List α} {cs : List Value} {p : α} {va vb vc vd ve vf vg vh : Value} (hp : R p [va, vb, vc, vd, ve, vf, vg, vh]) (h : Reps R 8 ps cs) : Reps R 8 (p :: ps) (va :: vb :: vc :: vd :: ve :: vf :: vg :: vh :: cs) := Reps.front hp rfl h rfl
theorem Reps.c9 {α : Type} {R : α → List Value → Prop} {ps : List α} {cs : List Value} {p : α} {va vb vc vd ve vf vg vh vi : Value} (hp : R p [va, vb, vc, vd, ve, vf, vg, vh, vi]) (h : Reps R 9 ps cs) : Reps R 9 (p :: ps) (va :: vb :: vc :: vd :: ve :: vf :: vg :: vh :: vi :: cs) := Reps.front hp rfl h rfl
theorem Reps.c10 {α : Type} {R : α → List Value → Prop} {ps : List α} {cs : List Value} {p : α} {va vb vc vd ve vf vg vh vi vj : Value} (hp : R p [va, vb, vc, vd, ve, vf, vg, vh, vi, vj]) (h : Reps R 10 ps cs) : Reps R 10 (p :: ps) (va :: vb :: vc :: vd :: ve :: vf :: vg :: vh :: vi :: vj :: cs) := Reps.front hp rfl h rfl
end Go.Proofs.YtpbobdgenjhjoaaDoorW.PrintWords
end
section
-- Cut by the session's own program (prune.py) out of the kit's printed words: what this seat's claims name.
namespace Go.Proofs.YtpbobdgenjhjoaaDoorW.PrintLast
/-- Number i is listed too. -/
def up (b : Nat → Bool) (i : Nat) : Nat → Bool := fun j => if j = i then true else b j
section
variable {P : Program} {ops : Array Oper} {Q : Exit → Act → World → Prop} {md : Region.Mode} {T : Bool × List (List Nat × List Nat)} {B : List Nat} {O : List Nat} {b : Nat → Bool} {i j n : Nat}
end
end Go.Proofs.YtpbobdgenjhjoaaDoorW.PrintLast
end
section
-- Cut by the session's own program (prune.py) out of the kit's printed words: what this seat's claims name.
namespace Go.Proofs.YtpbobdgenjhjoaaDoorW.PrintWords
open Go.RowKit
end Go.Proofs.YtpbobdgenjhjoaaDoorW.PrintWords
namespace Go.Proofs.YtpbobdgenjhjoaaDoorW.PrintLast
section
variable {ops : Array Oper} {a : Act} {o og : Oper} {g : Nat} {t : Tmp} {u : Bool}
end
end Go.Proofs.YtpbobdgenjhjoaaDoorW.PrintLast
end
section
-- Cut by the session's own program (prune.py) out of the kit's printed words: what this seat's claims name.
namespace Go.Proofs.YtpbobdgenjhjoaaDoorW.PrintWords
open Go.RowKit
section
variable {P : Program} {ops : Array Oper} {rest : List Oper} {o : Oper} {a : Act} {Q : Exit → Act → World → Prop} {W : World}
/-- The gate takes the guard off (hw: 'by rfl', 'by kernel_rfl': the guard's slot holds what is wanted). -/
theorem gate_guard (hw : Region.wanted o (yielded ops a.tmps) = true) (h : wpList P ops Q ({ o with guard := none } :: rest) a W) : wpList P ops Q (o :: rest) a W := by
  have h1 : Region.wanted { o with guard := none } (yielded ops a.tmps) = true := rfl
  unfold wpList at h ⊢
  rw [if_pos h1] at h
  rw [if_pos hw]
  exact h
end
end Go.Proofs.YtpbobdgenjhjoaaDoorW.PrintWords
end
section
-- Laid by the session's own driver gp.py over the kit's printer. Not trusted: Lean checks it.
namespace Go.Proofs.YtpbobdgenjhjoaaDoor.G
open Go.RowKit Go.Proofs.YtpbobdgenjhjoaaDoorW.PrintWords Go.Proofs.YtpbobdgenjhjoaaDoorW.PrintLast Go.Proofs.YtpbobdgenjhjoaaDoorW.PrintMore
attribute [local go_sem] max2_int min2_int max_two min_two max_three min_three max_four min_four   -- for this text's walks alone
set_option linter.unusedVariables false
set_option linter.unusedSimpArgs false



def errW : Option Int → Value
  | none => .nilIface
  | some c => .iface 0 (.int .i64 c)
theorem errW_none : errW none = .nilIface := rfl
theorem errW_some (c : Int) : errW (some c) = .iface 0 (.int .i64 c) := rfl

theorem info3 : (Tryd.prog.info? 3).map (fun i => (i.zero, i.size, i.bytes)) = some (some (.int .i64 0), 1, 8) := by kernel_rfl
theorem info9 : (Tryd.prog.info? 9).map (fun i => (i.zero, i.size, i.bytes)) = some (some (.string ⟨#[]⟩), 1, 16) := by kernel_rfl
theorem info23 : (Tryd.prog.info? 23).map (fun i => (i.zero, i.size, i.bytes)) = some (some (.slice none 0 0), 1, 24) := by kernel_rfl
theorem info27 : (Tryd.prog.info? 27).map (fun i => (i.zero, i.size, i.bytes)) = some (some (.agg #[(.int .i64 0), (.int .i64 0)]), 2, 16) := by kernel_rfl
theorem info41 : (Tryd.prog.info? 41).map (fun i => (i.zero, i.size, i.bytes)) = some (some (.agg #[(.int .i64 0), (.int .i64 0), (.slice none 0 0), (.string ⟨#[]⟩)]), 4, 56) := by kernel_rfl
-- the values' own types
def rd_L3 (xs : List (List ByteArray)) (i : Int) : (List ByteArray) := xs.getD i.toNat ([] : List ByteArray)
theorem at_L3 {w : World} {A : Option Addr} {n : Nat} {xs : List (List ByteArray)} (h : Kd.C (Kd.slice 9 Kd.string) w A n xs) (i : Int) (h0 : 0 ≤ i) (h1 : i < n) : ∃ ad A0 c0, A = some ad ∧ w.cell? (ad.add i.toNat) = some (.slice A0 (rd_L3 xs i).length c0) ∧ (rd_L3 xs i).length ≤ c0 ∧ Kd.string.C w A0 (rd_L3 xs i).length (rd_L3 xs i) := by
  obtain ⟨ad, c, e, _, hK, hc0⟩ := Kd.C_get h ([] : List ByteArray) i h0 h1
  have hc : ∀ j u, c[j]? = some u → w.cell? (ad.add (i.toNat * 1 + j)) = some u := hc0
  obtain ⟨A0, c0, rfl, l0, g0⟩ := hK
  exact ⟨ad, A0, c0, e, by have hq := hc 0 _ rfl; rwa [Nat.mul_one, Nat.add_zero] at hq, l0, g0⟩

/-! #### struct type 41 -/
structure S41 where
  f0 : Int
  f1 : Int
  f2 : (List ByteArray)
  f3 : ByteArray
def z41 : S41 := ⟨(0 : Int), (0 : Int), ([] : List ByteArray), (⟨#[]⟩ : ByteArray)⟩
def k41 : Kd S41 := Kd.iso (Kd.pair (Kd.int .i64) (Kd.pair (Kd.int .i64) (Kd.pair (Kd.slice 9 Kd.string) Kd.string))) (fun x : S41 => (x.f0, x.f1, x.f2, x.f3))
theorem k41_open {w : World} {x : S41} {cs : List Value} (h : k41.K w x cs) : ∃ A2 c2, cs = [.int .i64 x.f0, .int .i64 x.f1, .slice A2 x.f2.length c2, .string x.f3] ∧ x.f2.length ≤ c2 ∧ Kd.string.C w A2 x.f2.length x.f2 := by
  obtain ⟨_, _, rfl, rfl, ⟨_, _, rfl, rfl, ⟨_, _, rfl, ⟨A2, c2, rfl, l2, g2⟩, rfl⟩⟩⟩ := h
  exact ⟨A2, c2, rfl, l2, g2⟩
theorem k41_openM {w : World} {base : Nat} {ok : Nat → Prop} {x : S41} {cs : List Value} (h : k41.M w base ok x cs) : ∃ v2, cs = [.int .i64 x.f0, .int .i64 x.f1, v2, .string x.f3] ∧ Kd.string.R 9 w base ok v2 x.f2 := by
  obtain ⟨_, _, rfl, rfl, ⟨_, _, rfl, rfl, ⟨_, _, rfl, ⟨v2, rfl, g2⟩, rfl⟩⟩⟩ := h
  exact ⟨v2, rfl, g2⟩
theorem k41_mk (w : World) (x : S41) {A2 : Option Addr} {c2 : Nat} (l2 : x.f2.length ≤ c2) (g2 : Kd.string.C w A2 x.f2.length x.f2) : k41.K w x [.int .i64 x.f0, .int .i64 x.f1, .slice A2 x.f2.length c2, .string x.f3] := ⟨[.int .i64 x.f0], [.int .i64 x.f1, .slice A2 x.f2.length c2, .string x.f3], rfl, rfl, ⟨[.int .i64 x.f1], [.slice A2 x.f2.length c2, .string x.f3], rfl, rfl, ⟨[.slice A2 x.f2.length c2], [.string x.f3], rfl, ⟨A2, c2, rfl, l2, g2⟩, rfl⟩⟩⟩
theorem k41_mkM (w : World) (base : Nat) (ok : Nat → Prop) (x : S41) {v2 : Value} (g2 : Kd.string.R 9 w base ok v2 x.f2) : k41.M w base ok x [.int .i64 x.f0, .int .i64 x.f1, v2, .string x.f3] := ⟨[.int .i64 x.f0], [.int .i64 x.f1, v2, .string x.f3], rfl, rfl, ⟨[.int .i64 x.f1], [v2, .string x.f3], rfl, rfl, ⟨[v2], [.string x.f3], rfl, ⟨v2, rfl, g2⟩, rfl⟩⟩⟩
theorem k41_openF {W : World} {ok : Nat → Prop} {x : S41} {cs : List Value} (h : Kd.FK k41 W ok x cs) : ∃ A2 c2, cs = [.int .i64 x.f0, .int .i64 x.f1, .slice A2 x.f2.length c2, .string x.f3] ∧ x.f2.length ≤ c2 ∧ Kd.F Kd.string W ok A2 x.f2.length x.f2 := by
  obtain ⟨A2, c2, rfl, l2, _⟩ := k41_open (Kd.FK_now h)
  exact ⟨A2, c2, rfl, l2, (fun W' hW => by obtain ⟨A2_, c2_, he, l2_, g2_⟩ := k41_open (h W' hW); injection (Option.some.inj (show some (Value.slice A2 x.f2.length c2) = some (Value.slice A2_ x.f2.length c2_) from congrArg (fun l => l[2]?) he)) with ha_ _ _; rw [ha_]; exact g2_)⟩
theorem k41_mkF (W : World) (ok : Nat → Prop) (x : S41) {A2 : Option Addr} {c2 : Nat} (l2 : x.f2.length ≤ c2) (g2 : Kd.F Kd.string W ok A2 x.f2.length x.f2) : Kd.FK k41 W ok x [.int .i64 x.f0, .int .i64 x.f1, .slice A2 x.f2.length c2, .string x.f3] := fun W2 hW => k41_mk W2 x l2 (g2 W2 hW)
def rd_T41 (xs : List S41) (i : Int) : S41 := xs.getD i.toNat z41
theorem at_T41 {w : World} {A : Option Addr} {n : Nat} {xs : List S41} (h : Kd.C k41 w A n xs) (i : Int) (h0 : 0 ≤ i) (h1 : i < n) : ∃ ad A2 c2, A = some ad ∧ w.cell? (ad.add (i.toNat * 4)) = some (.int .i64 (rd_T41 xs i).f0) ∧ w.cell? ⟨(ad.add (i.toNat * 4)).block, (ad.add (i.toNat * 4)).off + 1, none⟩ = some (.int .i64 (rd_T41 xs i).f1) ∧ w.cell? ⟨(ad.add (i.toNat * 4)).block, (ad.add (i.toNat * 4)).off + 2, none⟩ = some (.slice A2 (rd_T41 xs i).f2.length c2) ∧ w.cell? ⟨(ad.add (i.toNat * 4)).block, (ad.add (i.toNat * 4)).off + 3, none⟩ = some (.string (rd_T41 xs i).f3) ∧ (rd_T41 xs i).f2.length ≤ c2 ∧ Kd.string.C w A2 (rd_T41 xs i).f2.length (rd_T41 xs i).f2 := by
  obtain ⟨ad, c, e, _, hK, hc0⟩ := Kd.C_get h z41 i h0 h1
  have hc : ∀ j u, c[j]? = some u → w.cell? (ad.add (i.toNat * 4 + j)) = some u := hc0
  obtain ⟨A2, c2, rfl, l2, g2⟩ := k41_open hK
  exact ⟨ad, A2, c2, e, hc 0 _ rfl, by rw [← add_field _ _ 1 (by omega)]; exact hc 1 _ rfl, by rw [← add_field _ _ 2 (by omega)]; exact hc 2 _ rfl, by rw [← add_field _ _ 3 (by omega)]; exact hc 3 _ rfl, l2, g2⟩

def rd_L5 (xs : List (List S41)) (i : Int) : (List S41) := xs.getD i.toNat ([] : List S41)
theorem at_L5 {w : World} {A : Option Addr} {n : Nat} {xs : List (List S41)} (h : Kd.C (Kd.slice 41 k41) w A n xs) (i : Int) (h0 : 0 ≤ i) (h1 : i < n) : ∃ ad A0 c0, A = some ad ∧ w.cell? (ad.add i.toNat) = some (.slice A0 (rd_L5 xs i).length c0) ∧ (rd_L5 xs i).length ≤ c0 ∧ k41.C w A0 (rd_L5 xs i).length (rd_L5 xs i) := by
  obtain ⟨ad, c, e, _, hK, hc0⟩ := Kd.C_get h ([] : List S41) i h0 h1
  have hc : ∀ j u, c[j]? = some u → w.cell? (ad.add (i.toNat * 1 + j)) = some u := hc0
  obtain ⟨A0, c0, rfl, l0, g0⟩ := hK
  exact ⟨ad, A0, c0, e, by have hq := hc 0 _ rfl; rwa [Nat.mul_one, Nat.add_zero] at hq, l0, g0⟩

def rd_L6 (xs : List (List Int)) (i : Int) : (List Int) := xs.getD i.toNat ([] : List Int)
theorem at_L6 {w : World} {A : Option Addr} {n : Nat} {xs : List (List Int)} (h : Kd.C (Kd.slice 3 (Kd.int .i64)) w A n xs) (i : Int) (h0 : 0 ≤ i) (h1 : i < n) : ∃ ad A0 c0, A = some ad ∧ w.cell? (ad.add i.toNat) = some (.slice A0 (rd_L6 xs i).length c0) ∧ (rd_L6 xs i).length ≤ c0 ∧ (Kd.int .i64).C w A0 (rd_L6 xs i).length (rd_L6 xs i) := by
  obtain ⟨ad, c, e, _, hK, hc0⟩ := Kd.C_get h ([] : List Int) i h0 h1
  have hc : ∀ j u, c[j]? = some u → w.cell? (ad.add (i.toNat * 1 + j)) = some u := hc0
  obtain ⟨A0, c0, rfl, l0, g0⟩ := hK
  exact ⟨ad, A0, c0, e, by have hq := hc 0 _ rfl; rwa [Nat.mul_one, Nat.add_zero] at hq, l0, g0⟩

/-! #### struct type 27 -/
structure S27 where
  f0 : Int
  f1 : Int
def z27 : S27 := ⟨(0 : Int), (0 : Int)⟩
def k27 : Kd S27 := Kd.iso (Kd.pair (Kd.int .i64) (Kd.int .i64)) (fun x : S27 => (x.f0, x.f1))
theorem k27_open {w : World} {x : S27} {cs : List Value} (h : k27.K w x cs) : cs = [.int .i64 x.f0, .int .i64 x.f1] := by
  obtain ⟨_, _, rfl, rfl, rfl⟩ := h
  exact rfl
theorem k27_openM {w : World} {base : Nat} {ok : Nat → Prop} {x : S27} {cs : List Value} (h : k27.M w base ok x cs) : cs = [.int .i64 x.f0, .int .i64 x.f1] := by
  obtain ⟨_, _, rfl, rfl, rfl⟩ := h
  exact rfl
theorem k27_mk (w : World) (x : S27)  : k27.K w x [.int .i64 x.f0, .int .i64 x.f1] := ⟨[.int .i64 x.f0], [.int .i64 x.f1], rfl, rfl, rfl⟩
theorem k27_mkM (w : World) (base : Nat) (ok : Nat → Prop) (x : S27)  : k27.M w base ok x [.int .i64 x.f0, .int .i64 x.f1] := ⟨[.int .i64 x.f0], [.int .i64 x.f1], rfl, rfl, rfl⟩
theorem k27_mkF (W : World) (ok : Nat → Prop) (x : S27) : Kd.FK k27 W ok x [.int .i64 x.f0, .int .i64 x.f1] := fun W2 _ => k27_mk W2 x
def rd_T27 (xs : List S27) (i : Int) : S27 := xs.getD i.toNat z27
theorem at_T27 {w : World} {A : Option Addr} {n : Nat} {xs : List S27} (h : Kd.C k27 w A n xs) (i : Int) (h0 : 0 ≤ i) (h1 : i < n) : ∃ ad , A = some ad ∧ w.cell? (ad.add (i.toNat * 2)) = some (.int .i64 (rd_T27 xs i).f0) ∧ w.cell? ⟨(ad.add (i.toNat * 2)).block, (ad.add (i.toNat * 2)).off + 1, none⟩ = some (.int .i64 (rd_T27 xs i).f1) := by
  obtain ⟨ad, c, e, _, hK, hc0⟩ := Kd.C_get h z27 i h0 h1
  have hc : ∀ j u, c[j]? = some u → w.cell? (ad.add (i.toNat * 2 + j)) = some u := hc0
  obtain rfl := k27_open hK
  exact ⟨ad, e, hc 0 _ rfl, by rw [← add_field _ _ 1 (by omega)]; exact hc 1 _ rfl⟩

end Go.Proofs.YtpbobdgenjhjoaaDoor.G
end
section
-- Laid by the session's own driver gp.py over the kit's printer. Not trusted: Lean checks it.
namespace Go.Proofs.YtpbobdgenjhjoaaDoor.G
open Go.RowKit Go.Proofs.YtpbobdgenjhjoaaDoorW.PrintWords Go.Proofs.YtpbobdgenjhjoaaDoorW.PrintLast Go.Proofs.YtpbobdgenjhjoaaDoorW.PrintMore
attribute [local go_sem] max2_int min2_int max_two min_two max_three min_three max_four min_four   -- for this text's walks alone
set_option linter.unusedVariables false
set_option linter.unusedSimpArgs false

/-! ### strings_IndexAny: function 74, given -/
/-- where the first blank or bracket stands -/
abbrev seps : ByteArray := ⟨#[32, 40, 41]⟩
set_option maxHeartbeats 4000000 in
set_option maxRecDepth 100000 in
theorem rune_err (w : World) :
    Calls Tryd.prog 82 #[.string seps, .int .i32 65533] w fun e w' => e = .returned (.int .i64 (-1)) ∧ Below w.heap.size w w' := by
  have hnx0 := fun ty => run_next_ascii (P := Tryd.prog) w seps 0 ty (by decide) (by decide)
  have hnx1 := fun ty => run_next_ascii (P := Tryd.prog) w seps 1 ty (by decide) (by decide)
  have hnx2 := fun ty => run_next_ascii (P := Tryd.prog) w seps 2 ty (by decide) (by decide)
  have hnx3 := fun ty => run_next_end (P := Tryd.prog) w seps 3 ty (by decide)
  go_enter Tryd.func82, Tryd.ntmps82
  go_wp2
  go_loopg [5, 6] 3 (fun g _ _ wx => ∃ i : Nat, i + g = 3 ∧ wx = w.iter seps i)
  case atStart => exact ⟨0, rfl, rfl⟩
  case round =>
    obtain ⟨i, hi, rfl⟩ := hrel
    cases gk with
    | zero =>
      obtain rfl : i = 3 := by omega
      go_wp2
      go_ret
      exact ⟨rfl, by apply below_alloc; exact Below.refl _ _⟩
    | succ g =>
      rcases (show i = 0 ∨ i = 1 ∨ i = 2 by omega) with rfl | rfl | rfl
      all_goals go_wp2
      all_goals go_roundg g
      all_goals first | omega | exact ⟨_, by omega, rfl⟩
set_option maxHeartbeats 4000000 in
set_option maxRecDepth 100000 in
theorem rune_two (w : World) (c : Int) (hc : 128 ≤ c) (hc2 : c < 2048) (hv : Lib.validRune c = true) (hc3 : c ≠ 65533) :
    Calls Tryd.prog 82 #[.string seps, .int .i32 c] w fun e w' => e = .returned (.int .i64 (-1)) ∧ Below w.heap.size w w' := by
  obtain ⟨p1, p2, hxy, hy⟩ : ∃ p1 p2 : UInt8, Utf8.encode c = ⟨#[p1, p2]⟩ ∧ 128 ≤ p2.toNat := by
    have hv2 : Utf8.valid c = true := by
      rw [← hv]; unfold Utf8.valid Lib.validRune
      rw [Bool.eq_iff_iff]; simp; omega
    refine ⟨UInt8.ofNat (0xC0 + c.toNat / 64), UInt8.ofNat (0x80 + c.toNat % 64), ?_, ?_⟩
    · unfold Utf8.encode
      simp only [hv2, if_true]
      rw [if_neg (by omega), if_pos (by omega)]
    · simp; omega
  have hcv : ∀ W : World, (convert 21 9 (.int .i32 c)).run Tryd.prog W = .ok (.string ⟨#[p1, p2]⟩) W := by
    intro W
    rw [← hxy]
    simp [convert, run_underlying Tryd.underlying21, run_underlying Tryd.underlying9, Conv.intToString, Result.andThen]
  have n1 : (c == 65533) = false := beq_eq_false_iff_ne.2 (by omega)
  have n2 : decide (c < 128) = false := decide_eq_false (by omega)
  clear hxy
  go_enter Tryd.func82, Tryd.ntmps82
  go_wp2_with (first
    | (go_at_call 90; refine (Tryd.utf8_ValidRune _ _).mono ?_; rintro e w1 ⟨rfl, hw⟩; rw [hw, hv])
    )
  go_step3
  go_wp2
  go_loopg [9, 10] 1 (fun g v9 v10 wx => v9 = .int .i64 1 ∧ v10 = .int .i64 0 ∧ wx = w)
  case atStart => exact ⟨rfl, rfl, rfl⟩
  case round =>
    obtain ⟨rfl, rfl, rfl⟩ := hrel
    have hne : ((40 : Int) == (p2.toNat : Int)) = false := beq_eq_false_iff_ne.2 (by omega)
    have hb : 1 < ({ data := #[p1, p2] } : ByteArray).size := by show 1 < 2; decide
    have hne2 : ((seps[1].toNat : Int) != ((({ data := #[p1, p2] } : ByteArray)[1]'hb).toNat : Int)) = true := by
      show ((40 : Int) != (p2.toNat : Int)) = true
      rw [bne, hne]; rfl
    have hix : Lib.indexByte (seps.extract 2 3).data.toList ((p2.toNat : Int)).toNat.toUInt8 = -1 := by
      rw [show ((p2.toNat : Int)).toNat.toUInt8 = p2 by simp]
      show Lib.indexByte [41] p2 = -1
      unfold Lib.indexByte
      rw [if_neg (by intro h; have := beq_iff_eq.1 h; subst this; revert hy; decide)]; rfl
    have hw2 : IntKind.i64.wrap 2 = 2 := by decide
    have hwi : IntKind.i64.wrap (1 + 1) = 2 := by decide
    go_wp2
    go_step3
    go_wp2
    go_region
    simp only [Exit.then, hne2]
    go_wp2
    go_region_with (go_at_call 89; refine (Tryd.strings_IndexByte (seps.extract 2 3) (p2.toNat : Int) _).mono ?_; rintro e w2 ⟨rfl, hw2⟩; rw [hw2, hix])
    all_goals simp only [Exit.then]
    all_goals go_wp2
    all_goals simp only [Exit.noGoto, Exit.inBlock, Exit.then]
    all_goals go_ret
    all_goals exact ⟨rfl, by repeat (first | exact Below.refl _ _ | apply Below.drew)⟩
set_option maxHeartbeats 4000000 in
set_option maxRecDepth 100000 in
theorem rune_three (w : World) (c : Int) (hc : 2048 ≤ c) (hc2 : c < 65536) (hv : Lib.validRune c = true) (hc3 : c ≠ 65533) :
    Calls Tryd.prog 82 #[.string seps, .int .i32 c] w fun e w' => e = .returned (.int .i64 (-1)) ∧ Below w.heap.size w w' := by
  obtain ⟨p1, p2, p3, hxy, hy⟩ : ∃ p1 p2 p3 : UInt8, Utf8.encode c = ⟨#[p1, p2, p3]⟩ ∧ 128 ≤ p3.toNat := by
    have hv2 : Utf8.valid c = true := by
      rw [← hv]; unfold Utf8.valid Lib.validRune
      rw [Bool.eq_iff_iff]; simp; omega
    refine ⟨UInt8.ofNat (0xE0 + c.toNat / 4096), UInt8.ofNat (0x80 + c.toNat / 64 % 64), UInt8.ofNat (0x80 + c.toNat % 64), ?_, ?_⟩
    · unfold Utf8.encode
      simp only [hv2, if_true]
      rw [if_neg (by omega), if_neg (by omega), if_pos (by omega)]
    · simp; omega
  have hcv : ∀ W : World, (convert 21 9 (.int .i32 c)).run Tryd.prog W = .ok (.string ⟨#[p1, p2, p3]⟩) W := by
    intro W
    rw [← hxy]
    simp [convert, run_underlying Tryd.underlying21, run_underlying Tryd.underlying9, Conv.intToString, Result.andThen]
  have n1 : (c == 65533) = false := beq_eq_false_iff_ne.2 (by omega)
  have n2 : decide (c < 128) = false := decide_eq_false (by omega)
  clear hxy
  go_enter Tryd.func82, Tryd.ntmps82
  go_wp2_with (first
    | (go_at_call 90; refine (Tryd.utf8_ValidRune _ _).mono ?_; rintro e w1 ⟨rfl, hw⟩; rw [hw, hv])
    )
  go_step3
  go_wp2
  go_loopg [9, 10] 1 (fun g v9 v10 wx => v9 = .int .i64 2 ∧ v10 = .int .i64 0 ∧ wx = w)
  case atStart => exact ⟨rfl, rfl, rfl⟩
  case round =>
    obtain ⟨rfl, rfl, rfl⟩ := hrel
    have hne : ((41 : Int) == (p3.toNat : Int)) = false := beq_eq_false_iff_ne.2 (by omega)
    have hb : 2 < ({ data := #[p1, p2, p3] } : ByteArray).size := by show 2 < 3; decide
    have hne2 : ((seps[2].toNat : Int) != ((({ data := #[p1, p2, p3] } : ByteArray)[2]'hb).toNat : Int)) = true := by
      show ((41 : Int) != (p3.toNat : Int)) = true
      rw [bne, hne]; rfl
    have hix : Lib.indexByte (seps.extract 3 3).data.toList ((p3.toNat : Int)).toNat.toUInt8 = -1 := by
      rw [show ((p3.toNat : Int)).toNat.toUInt8 = p3 by simp]
      show Lib.indexByte [] p3 = -1
      unfold Lib.indexByte
      rfl
    have hw2 : IntKind.i64.wrap 3 = 3 := by decide
    have hwi : IntKind.i64.wrap (2 + 1) = 3 := by decide
    go_wp2
    go_step3
    go_wp2
    go_region
    simp only [Exit.then, hne2]
    go_wp2
    go_region_with (go_at_call 89; refine (Tryd.strings_IndexByte (seps.extract 3 3) (p3.toNat : Int) _).mono ?_; rintro e w2 ⟨rfl, hw2⟩; rw [hw2, hix])
    all_goals simp only [Exit.then]
    all_goals go_wp2
    all_goals simp only [Exit.noGoto, Exit.inBlock, Exit.then]
    all_goals go_ret
    all_goals exact ⟨rfl, by repeat (first | exact Below.refl _ _ | apply Below.drew)⟩
set_option maxHeartbeats 4000000 in
set_option maxRecDepth 100000 in
theorem rune_four (w : World) (c : Int) (hc : 65536 ≤ c) (hc2 : c < 2147483648) (hv : Lib.validRune c = true) (hc3 : c ≠ 65533) :
    Calls Tryd.prog 82 #[.string seps, .int .i32 c] w fun e w' => e = .returned (.int .i64 (-1)) ∧ Below w.heap.size w w' := by
  obtain ⟨p1, p2, p3, p4, hxy, hy⟩ : ∃ p1 p2 p3 p4 : UInt8, Utf8.encode c = ⟨#[p1, p2, p3, p4]⟩ ∧ 128 ≤ p4.toNat := by
    have hv2 : Utf8.valid c = true := by
      rw [← hv]; unfold Utf8.valid Lib.validRune
      rw [Bool.eq_iff_iff]; simp; omega
    refine ⟨UInt8.ofNat (0xF0 + c.toNat / 262144), UInt8.ofNat (0x80 + c.toNat / 4096 % 64), UInt8.ofNat (0x80 + c.toNat / 64 % 64), UInt8.ofNat (0x80 + c.toNat % 64), ?_, ?_⟩
    · unfold Utf8.encode
      simp only [hv2, if_true]
      rw [if_neg (by omega), if_neg (by omega), if_neg (by omega)]
    · simp; omega
  have hcv : ∀ W : World, (convert 21 9 (.int .i32 c)).run Tryd.prog W = .ok (.string ⟨#[p1, p2, p3, p4]⟩) W := by
    intro W
    rw [← hxy]
    simp [convert, run_underlying Tryd.underlying21, run_underlying Tryd.underlying9, Conv.intToString, Result.andThen]
  have n1 : (c == 65533) = false := beq_eq_false_iff_ne.2 (by omega)
  have n2 : decide (c < 128) = false := decide_eq_false (by omega)
  clear hxy
  go_enter Tryd.func82, Tryd.ntmps82
  go_wp2_with (first
    | (go_at_call 90; refine (Tryd.utf8_ValidRune _ _).mono ?_; rintro e w1 ⟨rfl, hw⟩; rw [hw, hv])
    )
  go_step3
  go_wp2
  go_loopg [9, 10] 1 (fun g v9 v10 wx => v9 = .int .i64 3 ∧ v10 = .int .i64 0 ∧ wx = w)
  case atStart => exact ⟨rfl, rfl, rfl⟩
  case round =>
    obtain ⟨rfl, rfl, rfl⟩ := hrel
    go_wp2
    simp only [Exit.noGoto_ret, Exit.noGoto_normal]
    go_ret
    exact ⟨rfl, Below.refl _ _⟩
theorem rune_high (w : World) (c : Int) (hc : 128 ≤ c) (hm : c ≤ 2147483647) (hv : c = 65533 ∨ Lib.validRune c = true) :
    Calls Tryd.prog 82 #[.string seps, .int .i32 c] w fun e w' => e = .returned (.int .i64 (-1)) ∧ Below w.heap.size w w' := by
  by_cases h3 : c = 65533
  · subst h3; exact rune_err w
  · have hv := hv.resolve_left h3
    by_cases h1 : c < 2048
    · exact rune_two w c hc h1 hv h3
    · by_cases h2 : c < 65536
      · exact rune_three w c (by omega) h2 hv h3
      · exact rune_four w c (by omega) (by omega) hv h3
theorem get_bang (s : ByteArray) (i : Nat) (h : i < s.size) : s.get! i = s[i]'h := by
  simp [ByteArray.get!, getElem!_pos, h]; rfl
theorem dec_valid (s : ByteArray) (p : Nat) (h : p < s.size) (ha : 128 ≤ (s[p]'h).toNat) :
    ((Utf8.decode s p).1 : Int) = 65533 ∨ Lib.validRune ((Utf8.decode s p).1 : Int) = true := by
  have hb : ∀ k, (s.get! (p + k)).toNat < 256 := fun k => (s.get! (p + k)).toNat_lt
  have h0 := hb 0; have h1 := hb 1; have h2 := hb 2; have h3 := hb 3
  have hn : ¬ (s.get! (p + 0)).toNat < 128 := by rw [show p + 0 = p from rfl, get_bang s p h]; omega
  simp only [Utf8.decode, hn, if_false]
  repeat' split
  all_goals simp_all [Utf8.runeError, Lib.validRune, Utf8.valid]
  all_goals omega
theorem dec_high (s : ByteArray) (p : Nat) (h : p < s.size) (ha : 128 ≤ (s[p]'h).toNat) (j : Nat) (hj : p ≤ j) (hj2 : j < p + (Utf8.decode s p).2) (hjs : j < s.size) : 128 ≤ (s[j]'hjs).toNat := by
  have hn : ¬ (s.get! (p + 0)).toNat < 128 := by rw [show p + 0 = p from rfl, get_bang s p h]; omega
  have e1 : ∀ k, p + k < s.size → (s.get! (p + k)).toNat / 64 = 2 → ∀ hk : p + k < s.size, 128 ≤ (s[p + k]'hk).toNat := by
    intro k hk h2 hk'
    rw [get_bang s (p + k) hk] at h2
    omega
  obtain ⟨k, rfl⟩ : ∃ k, j = p + k := ⟨j - p, by omega⟩
  have hk4 : k < 4 := by
    revert hj2
    simp only [Utf8.decode, hn, if_false]
    repeat' split
    all_goals simp
    all_goals omega
  have hc : k = 0 ∨ (s.get! (p + k)).toNat / 64 = 2 := by
    revert hj2
    simp only [Utf8.decode, hn, if_false]
    rcases (show k = 0 ∨ k = 1 ∨ k = 2 ∨ k = 3 by omega) with rfl | rfl | rfl | rfl
    · intro _; exact .inl rfl
    all_goals repeat' split
    all_goals simp_all
  rcases hc with rfl | hc
  · exact ha
  · exact e1 k hjs hc hjs
theorem noany_skip (s : ByteArray) (p : Nat) (h : p < s.size) (ha : 128 ≤ (s[p]'h).toNat) (hno : Lib.NoAny s.data.toList seps.data.toList p) :
    Lib.NoAny s.data.toList seps.data.toList (p + (Utf8.decode s p).2) := by
  intro j b hj hb
  by_cases hjp : j < p
  · exact hno j b hjp hb
  · have hjs : j < s.size := by
      have := (List.getElem?_eq_some_iff.1 hb).1
      rwa [← Lib.size_eq] at this
    have h1 := dec_high s p h ha j (by omega) hj hjs
    have h2 : s.data.toList[j]? = some (s[j]'hjs) := Lib.data_getElem? s j hjs
    rw [h2] at hb
    obtain rfl := Option.some.inj hb
    show [(32 : UInt8), 40, 41].contains (s[j]'hjs) = false
    generalize s[j]'hjs = b at h1
    rw [Bool.eq_false_iff]
    intro hc
    simp at hc
    rcases hc with rfl | rfl | rfl <;> revert h1 <;> decide
set_option maxHeartbeats 8000000 in
set_option maxRecDepth 1000000 in
theorem any_short (s : ByteArray) (w : World) (h8 : s.size ≤ 8) :
    Calls Tryd.prog 74 #[.string s, .string seps] w fun e w' => e = .returned (.int .i64 (Lib.indexAny s.data.toList seps.data.toList)) ∧ Below w.heap.size w w' := by
  have hemp : seps.toList.isEmpty = false := by rw [Lib.toList_data]; rfl
  have hn1 : ((seps.size : Int) == 1) = false := by decide
  have h8z : decide ((8 : Int) < (s.size : Int)) = false := decide_eq_false (by omega)
  go_enter Tryd.func74, Tryd.ntmps74
  go_wp2_with (go_at_call 83; refine (Tryd.strings_shouldUseASCIISet _ _).mono ?_; rintro e w' ⟨rfl, hw⟩; rw [hw, h8z])
  go_loopg [9, 10] s.size (fun g _ _ wx => ∃ i : Nat, s.size ≤ i + g ∧ Below w.heap.size w wx ∧ wx.heap[w.heap.size]? = some (.stringIter s i) ∧ Lib.NoAny s.data.toList seps.data.toList i)
  case atStart => exact ⟨0, by omega, by apply below_alloc; exact Below.refl _ _, World.iter_heap _ _ _, Lib.NoAny.zero _ _⟩
  case round =>
    obtain ⟨i, hig, hB, hit, hno⟩ := hrel
    have HB : Aside (Below w.heap.size w wr) := hB
    have HN : Aside (Lib.NoAny s.data.toList seps.data.toList i) := hno
    clear hno
    by_cases hi : i < s.size
    · cases gk with
      | zero => exact absurd hig (by omega)
      | succ g =>
        have hws : w.heap.size < wr.heap.size := (Array.getElem?_eq_some_iff.1 hit).1
        have hnx := fun ty => Lib.run_next_any_at (P := Tryd.prog) wr w.heap.size s i ty hit hi
        have hit2 := Lib.iterAt_heap wr w.heap.size s i (i + (Utf8.decode s i).2) hit
        have hB2 : Below w.heap.size w (wr.iterAt w.heap.size s (i + (Utf8.decode s i).2)) := Lib.below_iterAt hB (Nat.le_refl _) s _
        have hsz2 : (wr.iterAt w.heap.size s (i + (Utf8.decode s i).2)).heap.size = wr.heap.size := Lib.iterAt_size _ _ _ _
        generalize hx : s[i]'hi = x at *
        by_cases hx128 : x.toNat < 128
        · have hd := decode_ascii s i hi (by rw [hx]; exact hx128)
          rw [hd] at hnx hit2 hB2 hsz2
          rw [hx] at hnx
          have hxl : s.data.toList[i]? = some x := by rw [← hx]; exact Lib.data_getElem? s i hi
          have hcon := Lib.contains_iff_indexByte seps.data.toList x
          have hback : ((x.toNat : Int)).toNat.toUInt8 = x := by simp
          have HB2 : Aside (Below w.heap.size w (wr.iterAt w.heap.size s (i + 1))) := hB2
          have HI2 : Aside ((wr.iterAt w.heap.size s (i + 1)).heap[w.heap.size]? = some (.stringIter s (i + 1))) := hit2
          have Hx : Aside (s.data.toList[i]? = some x) := hxl
          clear hxl hx hd hB2 hit2 hsz2
          generalize wr.iterAt w.heap.size s (i + 1) = wx at *
          cases hin : seps.data.toList.contains x
          · rw [hin] at hcon
            have hlt : ¬ ((0 : Int) ≤ Lib.indexByte seps.data.toList x) := of_decide_eq_false hcon.symm
            clear hcon
            go_wp2_with (go_at_call 82; refine (Tryd.strings_IndexRune_ascii _ _ _ (by omega) (by omega)).mono ?_; rintro e w' ⟨rfl, hw⟩; rw [hw, hback])
            go_roundg g
            case measure => omega
            case rel => exact ⟨i + 1, by omega, HB2.out, HI2.out, HN.out.succ Hx.out hin⟩
          · rw [hin] at hcon
            have hge : (0 : Int) ≤ Lib.indexByte seps.data.toList x := of_decide_eq_true hcon.symm
            clear hcon
            go_wp2_with (go_at_call 82; refine (Tryd.strings_IndexRune_ascii _ _ _ (by omega) (by omega)).mono ?_; rintro e w' ⟨rfl, hw⟩; rw [hw, hback])
            go_ret
            exact ⟨by rw [Lib.indexAny_hit HN.out Hx.out hin]; rfl, HB2.out⟩
        · have hxh : 128 ≤ (s[i]'hi).toNat := by rw [hx]; omega
          have hd := decode_high s i hi hxh
          have hdl := decode_le s i
          have hv := dec_valid s i hi hxh
          have HN2 : Aside (Lib.NoAny s.data.toList seps.data.toList (i + (Utf8.decode s i).2)) := noany_skip s i hi hxh HN.out
          clear hx hxh
          generalize Utf8.decode s i = d at *
          obtain ⟨d1, d2⟩ := d
          dsimp only at *
          have HB2 : Aside (Below w.heap.size w (wr.iterAt w.heap.size s (i + d2))) := hB2
          have HI2 : Aside ((wr.iterAt w.heap.size s (i + d2)).heap[w.heap.size]? = some (.stringIter s (i + d2))) := hit2
          clear hB2 hit2
          generalize wr.iterAt w.heap.size s (i + d2) = wx at *
          have hneg : ¬ ((0 : Int) ≤ -1) := by omega
          have HR : Aside (Calls Tryd.prog 82 #[.string seps, .int .i32 (d1 : Int)] wx fun e w' => e = .returned (.int .i64 (-1)) ∧ Below wx.heap.size wx w') := rune_high wx d1 (by omega) (by omega) hv
          clear hv hdl
          go_wp2_with (go_at_call 82; refine (HR.out).mono ?_; rintro e w' ⟨rfl, hb⟩; have HBr : Aside (Below wx.heap.size wx w') := hb; clear hb)
          go_roundg g
          case measure => omega
          case rel =>
            refine ⟨i + d2, by omega, below_step HB2.out HBr.out, ?_, HN2.out⟩
            rw [← HI2.out]
            exact (HBr.out.block _ (by omega))
    · have hnx := fun ty => Lib.run_next_end_at (P := Tryd.prog) wr w.heap.size s i ty hit hi
      go_wp2
      go_ret
      exact ⟨by rw [Lib.indexAny_none (fun j b hj hb => HN.out j b (by have := (List.getElem?_eq_some_iff.1 hb).1; rw [← Lib.size_eq] at this; omega) hb)]; rfl, HB.out⟩
def strings_IndexAny.f (a0 : ByteArray) (a1 : ByteArray) : Option Int := if a1 = seps ∧ a0.size < 4294967281 then some (Lib.indexAny a0.data.toList seps.data.toList) else none
theorem strings_IndexAny.calls (a0 : ByteArray) (a1 : ByteArray) (r : Int) (w : World) (h : strings_IndexAny.f a0 a1 = some r) :
    Calls Tryd.prog 74 #[.string a0, .string a1] w fun e w' => e = .returned (.int .i64 r) ∧ Below w.heap.size w w' := by
  unfold strings_IndexAny.f at h
  by_cases hc : a1 = seps ∧ a0.size < 4294967281
  · rw [if_pos hc] at h
    obtain rfl := Option.some.inj h
    obtain ⟨rfl, hs⟩ := hc
    by_cases h8 : a0.size ≤ 8
    · exact any_short a0 w h8
    · refine (Tryd.strings_IndexAny_long (zero_of_info (n := 256) (by kernel_rfl)).1 a0 seps w (by decide) (by omega) hs (by decide) ?_).mono ?_
      · intro j b hb
        have : j < 3 := (List.getElem?_eq_some_iff.1 hb).1
        rcases (show j = 0 ∨ j = 1 ∨ j = 2 by omega) with rfl | rfl | rfl <;> (obtain rfl := Option.some.inj hb; decide)
      · rintro e w' ⟨rfl, rfl⟩
        exact ⟨rfl, by apply below_alloc; apply below_alloc; exact Below.refl _ _⟩
  · rw [if_neg hc] at h; cases h

end Go.Proofs.YtpbobdgenjhjoaaDoor.G
end
section
-- Laid by the session's own driver gp.py over the kit's printer. Not trusted: Lean checks it.
namespace Go.Proofs.YtpbobdgenjhjoaaDoor.G
open Go.RowKit Go.Proofs.YtpbobdgenjhjoaaDoorW.PrintWords Go.Proofs.YtpbobdgenjhjoaaDoorW.PrintLast Go.Proofs.YtpbobdgenjhjoaaDoorW.PrintMore
attribute [local go_sem] max2_int min2_int max_two min_two max_three min_three max_four min_four   -- for this text's walks alone
set_option linter.unusedVariables false
set_option linter.unusedSimpArgs false

/-! ### term_word: function 65 -/
def term_word.f (a0 : ByteArray) : Option (ByteArray × ByteArray) := (strings_IndexAny.f a0 (⟨#[32, 40, 41]⟩ : ByteArray)).bind fun t101 => (if t101 < 0 then (if 0 ≤ (a0.size : Int) then (if (a0.size : Int) ≤ (a0.size : Int) then (some (a0.extract 0 ((a0.size : Int) : Int).toNat, a0.extract ((a0.size : Int) : Int).toNat a0.size)) else (none)) else (none)) else (if 0 ≤ t101 then (if t101 ≤ (a0.size : Int) then (some (a0.extract 0 (t101 : Int).toNat, a0.extract (t101 : Int).toNat a0.size)) else (none)) else (none)))
set_option maxHeartbeats 8000000 in
set_option maxRecDepth 100000 in
theorem term_word.calls (a0 : ByteArray) (r1 : ByteArray) (r2 : ByteArray) (w : World) (h : term_word.f a0 = some (r1, r2)) :
    Calls Tryd.prog 65 #[.string a0] w fun e w' => e = .returned (.tuple #[.string r1, .string r2]) ∧ Below w.heap.size w w' := by
  have HB := Aside0.mk (Below.refl w.heap.size w)
  have H : ((strings_IndexAny.f a0 (⟨#[32, 40, 41]⟩ : ByteArray)).bind fun t101 => (if t101 < 0 then (if 0 ≤ (a0.size : Int) then (if (a0.size : Int) ≤ (a0.size : Int) then (some (a0.extract 0 ((a0.size : Int) : Int).toNat, a0.extract ((a0.size : Int) : Int).toNat a0.size)) else (none)) else (none)) else (if 0 ≤ t101 then (if t101 ≤ (a0.size : Int) then (some (a0.extract 0 (t101 : Int).toNat, a0.extract (t101 : Int).toNat a0.size)) else (none)) else (none)))) = some (r1, r2) := h
  clear h
  replace H := Option.bind_eq_some_iff.mp H
  obtain ⟨t101, A20, H⟩ := H
  replace H : (if t101 < 0 then (if 0 ≤ (a0.size : Int) then (if (a0.size : Int) ≤ (a0.size : Int) then (some (a0.extract 0 ((a0.size : Int) : Int).toNat, a0.extract ((a0.size : Int) : Int).toNat a0.size)) else (none)) else (none)) else (if 0 ≤ t101 then (if t101 ≤ (a0.size : Int) then (some (a0.extract 0 (t101 : Int).toNat, a0.extract (t101 : Int).toNat a0.size)) else (none)) else (none))) = some (r1, r2) := H
  have A2 := Aside0.mk A20
  clear A20
  by_cases c3 : t101 < 0
  · rw [if_pos c3] at H
    have c3b0 : decide (t101 < 0) = true := decide_eq_true c3
    clear c3
    by_cases c4 : 0 ≤ (a0.size : Int)
    · rw [if_pos c4] at H
      have c4b0 := eq_true c4
      have c4b1 : decide (0 ≤ (a0.size : Int)) = true := decide_eq_true c4
      clear c4
      by_cases c5 : (a0.size : Int) ≤ (a0.size : Int)
      · rw [if_pos c5] at H
        have c5b0 := eq_true c5
        have c5b1 : decide ((a0.size : Int) ≤ (a0.size : Int)) = true := decide_eq_true c5
        clear c5
        have c6b0 := eq_true (of_decide_eq_true hA_ : 0 ≤ (a0.size : Int))
        have c7b0 := eq_true (of_decide_eq_true hA_ : (a0.size : Int) ≤ (a0.size : Int))
        simp only [Option.some.injEq, Prod.mk.injEq] at H
        obtain ⟨rfl, rfl⟩ := H
        go_enter Tryd.func65, Tryd.ntmps65
        go_wp2_with (first | (go_at_call 74; (with_reducible refine (strings_IndexAny.calls a0 (⟨#[32, 40, 41]⟩ : ByteArray) t101 _ A2.out).mono ?_); rintro e w8 ⟨rfl, hb⟩; have n0_ := Aside0.mk (below_step hB_ hb); clear HB; have HB := n0_; clear n0_; (try clear hb); (try clear hb2); (try clear hk); (try clear hi)))
        repeat (go_quiet (first | (go_at_call 74; (with_reducible refine (strings_IndexAny.calls a0 (⟨#[32, 40, 41]⟩ : ByteArray) t101 _ A2.out).mono ?_); rintro e w8 ⟨rfl, hb⟩; have n0_ := Aside0.mk (below_step hB_ hb); clear HB; have HB := n0_; clear n0_; (try clear hb); (try clear hb2); (try clear hk); (try clear hi))); try go_wp2_with (first | (go_at_call 74; (with_reducible refine (strings_IndexAny.calls a0 (⟨#[32, 40, 41]⟩ : ByteArray) t101 _ A2.out).mono ?_); rintro e w8 ⟨rfl, hb⟩; have n0_ := Aside0.mk (below_step hB_ hb); clear HB; have HB := n0_; clear n0_; (try clear hb); (try clear hb2); (try clear hk); (try clear hi))))
        go_ret2
        exact ⟨by first | rfl | (simp [errW_none, errW_some] <;> rfl) | (simp [*, errW_none, errW_some] <;> rfl), by repeat (first | (with_reducible first | exact HB.out | apply below_alloc | apply pw_below_drewN | apply below_drew1) | exact HB.out)⟩
      · rw [if_neg c5] at H
        exact absurd H (by simp)
    · rw [if_neg c4] at H
      exact absurd H (by simp)
  · rw [if_neg c3] at H
    have c3b0 : decide (t101 < 0) = false := decide_eq_false c3
    clear c3
    by_cases c9 : 0 ≤ t101
    · rw [if_pos c9] at H
      have c9b0 := eq_true c9
      have c9b1 : decide (0 ≤ t101) = true := decide_eq_true c9
      clear c9
      by_cases c10 : t101 ≤ (a0.size : Int)
      · rw [if_pos c10] at H
        have c10b0 := eq_true c10
        have c10b1 : decide (t101 ≤ (a0.size : Int)) = true := decide_eq_true c10
        clear c10
        have c11b0 := eq_true (of_decide_eq_true hA_ : 0 ≤ t101)
        have c12b0 := eq_true (of_decide_eq_true hA_ : t101 ≤ (a0.size : Int))
        simp only [Option.some.injEq, Prod.mk.injEq] at H
        obtain ⟨rfl, rfl⟩ := H
        go_enter Tryd.func65, Tryd.ntmps65
        go_wp2_with (first | (go_at_call 74; (with_reducible refine (strings_IndexAny.calls a0 (⟨#[32, 40, 41]⟩ : ByteArray) t101 _ A2.out).mono ?_); rintro e w13 ⟨rfl, hb⟩; have n0_ := Aside0.mk (below_step hB_ hb); clear HB; have HB := n0_; clear n0_; (try clear hb); (try clear hb2); (try clear hk); (try clear hi)))
        repeat (go_quiet (first | (go_at_call 74; (with_reducible refine (strings_IndexAny.calls a0 (⟨#[32, 40, 41]⟩ : ByteArray) t101 _ A2.out).mono ?_); rintro e w13 ⟨rfl, hb⟩; have n0_ := Aside0.mk (below_step hB_ hb); clear HB; have HB := n0_; clear n0_; (try clear hb); (try clear hb2); (try clear hk); (try clear hi))); try go_wp2_with (first | (go_at_call 74; (with_reducible refine (strings_IndexAny.calls a0 (⟨#[32, 40, 41]⟩ : ByteArray) t101 _ A2.out).mono ?_); rintro e w13 ⟨rfl, hb⟩; have n0_ := Aside0.mk (below_step hB_ hb); clear HB; have HB := n0_; clear n0_; (try clear hb); (try clear hb2); (try clear hk); (try clear hi))))
        go_ret2
        exact ⟨by first | rfl | (simp [errW_none, errW_some] <;> rfl) | (simp [*, errW_none, errW_some] <;> rfl), by repeat (first | (with_reducible first | exact HB.out | apply below_alloc | apply pw_below_drewN | apply below_drew1) | exact HB.out)⟩
      · rw [if_neg c10] at H
        exact absurd H (by simp)
    · rw [if_neg c9] at H
      exact absurd H (by simp)

end Go.Proofs.YtpbobdgenjhjoaaDoor.G
end
section
-- Laid by the session's own driver gp.py over the kit's printer. Not trusted: Lean checks it.
namespace Go.Proofs.YtpbobdgenjhjoaaDoor.G
open Go.RowKit Go.Proofs.YtpbobdgenjhjoaaDoorW.PrintWords Go.Proofs.YtpbobdgenjhjoaaDoorW.PrintLast Go.Proofs.YtpbobdgenjhjoaaDoorW.PrintMore
attribute [local go_sem] max2_int min2_int max_two min_two max_three min_three max_four min_four   -- for this text's walks alone
set_option linter.unusedVariables false
set_option linter.unusedSimpArgs false

/-! ### term_Number: function 66, given -/
def term_Number.f (a0 : ByteArray) : Option (Int × Bool) := if a0.size ≤ 281474976710656 then some (numF a0) else none
set_option maxHeartbeats 4000000 in
set_option maxRecDepth 100000 in
theorem term_Number.calls (a0 : ByteArray) (r1 : Int) (r2 : Bool) (w : World) (h : term_Number.f a0 = some (r1, r2)) (hG : GOK w) :
    Calls Tryd.prog 66 #[.string a0] w fun e w' => e = .returned (.tuple #[.int .i64 r1, .bool r2]) ∧ Below w.heap.size w w' := by
  unfold term_Number.f at h
  by_cases hs : a0.size ≤ 281474976710656
  · rw [if_pos hs] at h
    have h := Option.some.inj h
    obtain ⟨rfl, rfl⟩ : r1 = (numF a0).1 ∧ r2 = (numF a0).2 := by rw [h]; exact ⟨rfl, rfl⟩
    clear h
    have hr := atoiF_range a0
    have hC := Aside0.mk (atoi_calls a0 hs w hG)
    have hn : (numF a0).1 = (atoiF a0).1 := by unfold numF atoiF; cases Lib.atoiAll a0.data.toList <;> rfl
    rw [hn]
    have hb : (numF a0).2 = ((atoiF a0).2 && ((decide (-32768 ≤ (atoiF a0).1) && decide ((atoiF a0).1 ≤ 32767)) && itoaK (atoiF a0).1 == a0.data.toList)) := by
      unfold numF atoiF; cases Lib.atoiAll a0.data.toList <;> rfl
    rw [hb]
    clear hn hb
    generalize (atoiF a0).1 = v at hr hC ⊢
    generalize (atoiF a0).2 = ok at hC ⊢
    cases ok with
    | false =>
      go_enter Tryd.func66, Tryd.ntmps66
      go_wp2_with (go_at_call 75; refine (hC.out).mono ?_; rintro e w1 ⟨⟨N, rfl⟩, hb⟩; have HB := Aside0.mk hb; clear hb; simp only [errV, Bool.false_eq_true, if_false])
      go_ret2
      exact ⟨rfl, by repeat (first | exact HB.out | apply below_alloc | apply pw_below_drewN | apply below_drew1)⟩
    | true =>
      by_cases c1 : -32768 ≤ v
      · by_cases c2 : v ≤ 32767
        · have k1 : decide (-32768 ≤ v) = true := decide_eq_true c1
          have k2 : decide (v ≤ 32767) = true := decide_eq_true c2
          have e1 : (true && ((decide (-32768 ≤ v) && decide (v ≤ 32767)) && itoaK v == a0.data.toList)) = (itoaK v == a0.data.toList) := by rw [k1, k2]; rfl
          rw [e1]
          clear e1
          go_enter Tryd.func66, Tryd.ntmps66
          go_wp2_with (first
            | (go_at_call 75; refine (hC.out).mono ?_; rintro e w1 ⟨⟨N, rfl⟩, hb⟩; have HB := Aside0.mk hb; have HG1 := hG.below hb; clear hb; simp only [errV, if_true])
            | (go_at_call 77; refine (itoa_calls v (by omega) (by omega) _ HG1).mono ?_; rintro e w2 ⟨rfl, hb⟩; have HB2 := Aside0.mk (below_step HB.out hb); clear hb)
            | go_in)
          go_ret2
          exact ⟨by rw [Lib.toList_data]; rfl, by repeat (first | exact HB2.out | apply below_alloc | apply pw_below_drewN | apply below_drew1)⟩
        · have k1 : decide (-32768 ≤ v) = true := decide_eq_true c1
          have k2 : decide (v ≤ 32767) = false := decide_eq_false c2
          have e1 : (true && ((decide (-32768 ≤ v) && decide (v ≤ 32767)) && itoaK v == a0.data.toList)) = false := by rw [k1, k2]; rfl
          rw [e1]
          clear e1
          go_enter Tryd.func66, Tryd.ntmps66
          go_wp2_with (first
            | (go_at_call 75; refine (hC.out).mono ?_; rintro e w1 ⟨⟨N, rfl⟩, hb⟩; have HB := Aside0.mk hb; clear hb; simp only [errV, if_true])
            | go_in)
          go_ret2
          exact ⟨rfl, by repeat (first | exact HB.out | apply below_alloc | apply pw_below_drewN | apply below_drew1)⟩
      · have k1 : decide (-32768 ≤ v) = false := decide_eq_false c1
        have e1 : (true && ((decide (-32768 ≤ v) && decide (v ≤ 32767)) && itoaK v == a0.data.toList)) = false := by rw [k1]; rfl
        rw [e1]
        clear e1
        go_enter Tryd.func66, Tryd.ntmps66
        go_wp2_with (first
          | (go_at_call 75; refine (hC.out).mono ?_; rintro e w1 ⟨⟨N, rfl⟩, hb⟩; have HB := Aside0.mk hb; clear hb; simp only [errV, if_true])
          | go_in)
        go_ret2
        exact ⟨rfl, by repeat (first | exact HB.out | apply below_alloc | apply pw_below_drewN | apply below_drew1)⟩
  · rw [if_neg hs] at h
    cases h

end Go.Proofs.YtpbobdgenjhjoaaDoor.G
end
section
-- Laid by the session's own driver gp.py over the kit's printer. Not trusted: Lean checks it.
namespace Go.Proofs.YtpbobdgenjhjoaaDoor.G
open Go.RowKit Go.Proofs.YtpbobdgenjhjoaaDoorW.PrintWords Go.Proofs.YtpbobdgenjhjoaaDoorW.PrintLast Go.Proofs.YtpbobdgenjhjoaaDoorW.PrintMore
attribute [local go_sem] max2_int min2_int max_two min_two max_three min_three max_four min_four   -- for this text's walks alone
set_option linter.unusedVariables false
set_option linter.unusedSimpArgs false

/-! ### strings_CutPrefix: function 69, given -/
def strings_CutPrefix.f (a0 : ByteArray) (a1 : ByteArray) : Option (ByteArray × Bool) := some (⟨(Lib.trimPrefix a0.data.toList a1.data.toList).toArray⟩, Lib.hasPrefix a0.data.toList a1.data.toList)
theorem strings_CutPrefix.calls (a0 : ByteArray) (a1 : ByteArray) (r1 : ByteArray) (r2 : Bool) (w : World) (h : strings_CutPrefix.f a0 a1 = some (r1, r2)) :
    Calls Tryd.prog 69 #[.string a0, .string a1] w fun e w' => e = .returned (.tuple #[.string r1, .bool r2]) ∧ Drawn0 w w' := by
  have h := Option.some.inj h
  obtain ⟨rfl, rfl⟩ := Prod.mk.inj h
  refine (Tryd.strings_CutPrefix a0 a1 w).mono ?_
  rintro e w' ⟨rfl, rfl⟩
  exact ⟨rfl, Drawn0.refl _⟩

end Go.Proofs.YtpbobdgenjhjoaaDoor.G
end
section
-- Laid by the session's own driver gp.py over the kit's printer. Not trusted: Lean checks it.
namespace Go.Proofs.YtpbobdgenjhjoaaDoor.G
open Go.RowKit Go.Proofs.YtpbobdgenjhjoaaDoorW.PrintWords Go.Proofs.YtpbobdgenjhjoaaDoorW.PrintLast Go.Proofs.YtpbobdgenjhjoaaDoorW.PrintMore
attribute [local go_sem] max2_int min2_int max_two min_two max_three min_three max_four min_four   -- for this text's walks alone
set_option linter.unusedVariables false
set_option linter.unusedSimpArgs false

/-! ### term_Digits: function 78, given -/
def term_Digits.f (a0 : ByteArray) (a1 : Int) : Option (Int × Bool) := if a0.size ≤ 281474976710656 then some (digF a0 a1) else none
set_option maxHeartbeats 4000000 in
set_option maxRecDepth 100000 in
theorem term_Digits.calls (a0 : ByteArray) (a1 : Int) (r1 : Int) (r2 : Bool) (w : World) (h : term_Digits.f a0 a1 = some (r1, r2)) (hG : GOK w) :
    Calls Tryd.prog 78 #[.string a0, .int .i64 a1] w fun e w' => e = .returned (.tuple #[.int .i64 r1, .bool r2]) ∧ Below w.heap.size w w' := by
  unfold term_Digits.f at h
  by_cases hs : a0.size ≤ 281474976710656
  · rw [if_pos hs] at h
    have h := Option.some.inj h
    obtain ⟨rfl, rfl⟩ : r1 = (digF a0 a1).1 ∧ r2 = (digF a0 a1).2 := by rw [h]; exact ⟨rfl, rfl⟩
    clear h
    have hr := atoiF_range a0
    have hC := Aside0.mk (atoi_calls a0 hs w hG)
    have hn : (digF a0 a1).1 = (atoiF a0).1 := by unfold digF atoiF; cases Lib.atoiAll a0.data.toList <;> rfl
    rw [hn]
    have hb : (digF a0 a1).2 = ((atoiF a0).2 && ((decide (0 ≤ (atoiF a0).1) && decide ((atoiF a0).1 ≤ a1)) && itoaK (atoiF a0).1 == a0.data.toList)) := by
      unfold digF atoiF; cases Lib.atoiAll a0.data.toList <;> rfl
    rw [hb]
    clear hn hb
    generalize (atoiF a0).1 = v at hr hC ⊢
    generalize (atoiF a0).2 = ok at hC ⊢
    cases ok with
    | false =>
      go_enter Tryd.func78, Tryd.ntmps78
      go_wp2_with (go_at_call 75; refine (hC.out).mono ?_; rintro e w1 ⟨⟨N, rfl⟩, hb⟩; have HB := Aside0.mk hb; clear hb; simp only [errV, Bool.false_eq_true, if_false])
      go_ret2
      exact ⟨rfl, by repeat (first | exact HB.out | apply below_alloc | apply pw_below_drewN | apply below_drew1)⟩
    | true =>
      by_cases c1 : 0 ≤ v
      · by_cases c2 : v ≤ a1
        · have k1 : decide (0 ≤ v) = true := decide_eq_true c1
          have k2 : decide (v ≤ a1) = true := decide_eq_true c2
          have e1 : (true && ((decide (0 ≤ v) && decide (v ≤ a1)) && itoaK v == a0.data.toList)) = (itoaK v == a0.data.toList) := by rw [k1, k2]; rfl
          rw [e1]
          clear e1
          go_enter Tryd.func78, Tryd.ntmps78
          go_wp2_with (first
            | (go_at_call 75; refine (hC.out).mono ?_; rintro e w1 ⟨⟨N, rfl⟩, hb⟩; have HB := Aside0.mk hb; have HG1 := hG.below hb; clear hb; simp only [errV, if_true])
            | (go_at_call 77; refine (itoa_calls v (by omega) (by omega) _ HG1).mono ?_; rintro e w2 ⟨rfl, hb⟩; have HB2 := Aside0.mk (below_step HB.out hb); clear hb)
            | go_in)
          go_ret2
          exact ⟨by rw [Lib.toList_data]; rfl, by repeat (first | exact HB2.out | apply below_alloc | apply pw_below_drewN | apply below_drew1)⟩
        · have k1 : decide (0 ≤ v) = true := decide_eq_true c1
          have k2 : decide (v ≤ a1) = false := decide_eq_false c2
          have e1 : (true && ((decide (0 ≤ v) && decide (v ≤ a1)) && itoaK v == a0.data.toList)) = false := by rw [k1, k2]; rfl
          rw [e1]
          clear e1
          go_enter Tryd.func78, Tryd.ntmps78
          go_wp2_with (first
            | (go_at_call 75; refine (hC.out).mono ?_; rintro e w1 ⟨⟨N, rfl⟩, hb⟩; have HB := Aside0.mk hb; clear hb; simp only [errV, if_true])
            | go_in)
          go_ret2
          exact ⟨rfl, by repeat (first | exact HB.out | apply below_alloc | apply pw_below_drewN | apply below_drew1)⟩
      · have k1 : decide (0 ≤ v) = false := decide_eq_false c1
        have e1 : (true && ((decide (0 ≤ v) && decide (v ≤ a1)) && itoaK v == a0.data.toList)) = false := by rw [k1]; rfl
        rw [e1]
        clear e1
        go_enter Tryd.func78, Tryd.ntmps78
        go_wp2_with (first
          | (go_at_call 75; refine (hC.out).mono ?_; rintro e w1 ⟨⟨N, rfl⟩, hb⟩; have HB := Aside0.mk hb; clear hb; simp only [errV, if_true])
          | go_in)
        go_ret2
        exact ⟨rfl, by repeat (first | exact HB.out | apply below_alloc | apply pw_below_drewN | apply below_drew1)⟩
  · rw [if_neg hs] at h
    cases h

end Go.Proofs.YtpbobdgenjhjoaaDoor.G
end
section
-- Laid by the session's own driver gp.py over the kit's printer. Not trusted: Lean checks it.
namespace Go.Proofs.YtpbobdgenjhjoaaDoor.G
open Go.RowKit Go.Proofs.YtpbobdgenjhjoaaDoorW.PrintWords Go.Proofs.YtpbobdgenjhjoaaDoorW.PrintLast Go.Proofs.YtpbobdgenjhjoaaDoorW.PrintMore
attribute [local go_sem] max2_int min2_int max_two min_two max_three min_three max_four min_four   -- for this text's walks alone
set_option linter.unusedVariables false
set_option linter.unusedSimpArgs false

/-! ### term_Tag: function 67 -/
def term_Tag.f (a0 : ByteArray) : Option (Int × Bool) := (strings_CutPrefix.f a0 (⟨#[64]⟩ : ByteArray)).bind fun bt102 => ((term_Digits.f bt102.1 99).bind fun bt104 => (if bt102.2 = true then (some (bt104.1, bt104.2)) else (some (bt104.1, false))))
set_option maxHeartbeats 8000000 in
set_option maxRecDepth 100000 in
theorem term_Tag.calls (a0 : ByteArray) (r1 : Int) (r2 : Bool) (w : World) (h : term_Tag.f a0 = some (r1, r2)) (hG : GOK w) :
    Calls Tryd.prog 67 #[.string a0] w fun e w' => e = .returned (.tuple #[.int .i64 r1, .bool r2]) ∧ Below w.heap.size w w' := by
  have HB := Aside0.mk (Below.refl w.heap.size w)
  have H : ((strings_CutPrefix.f a0 (⟨#[64]⟩ : ByteArray)).bind fun bt102 => ((term_Digits.f bt102.1 99).bind fun bt104 => (if bt102.2 = true then (some (bt104.1, bt104.2)) else (some (bt104.1, false))))) = some (r1, r2) := h
  clear h
  replace H := Option.bind_eq_some_iff.mp H
  obtain ⟨⟨t102, t103⟩, A20, H⟩ := H
  replace H : ((term_Digits.f t102 99).bind fun bt104 => (if t103 = true then (some (bt104.1, bt104.2)) else (some (bt104.1, false)))) = some (r1, r2) := H
  have A2 := Aside0.mk A20
  clear A20
  replace H := Option.bind_eq_some_iff.mp H
  obtain ⟨⟨t104, t105⟩, A30, H⟩ := H
  replace H : (if t103 = true then (some (t104, t105)) else (some (t104, false))) = some (r1, r2) := H
  have A3 := Aside0.mk A30
  clear A30
  by_cases c4 : t103 = true
  · subst c4
    have H1 : (some (t104, t105)) = some (r1, r2) := by rw [if_pos rfl] at H; exact H
    clear H
    have H := H1
    clear H1
    simp only [Option.some.injEq, Prod.mk.injEq] at H
    obtain ⟨rfl, rfl⟩ := H
    go_enter Tryd.func67, Tryd.ntmps67
    go_wp2_with (first | ((with_reducible refine gate_callee (f := 69) rfl ?_); refine goesL_ (some 10) rfl rfl Tryd.func69 (by kernel_rfl) rfl #[.string a0, .string (⟨#[64]⟩ : ByteArray)] rfl hL_ ?_; (with_reducible refine (strings_CutPrefix.calls a0 (⟨#[64]⟩ : ByteArray) t102 true _ A2.out).mono ?_); rintro e w' ⟨rfl, ⟨nd, rfl⟩⟩; refine ⟨_, rfl, ?_⟩) | ((with_reducible refine gate_callee (f := 78) rfl ?_); refine goesL_ (some 15) rfl rfl Tryd.func78 (by kernel_rfl) rfl #[.string t102, .int .i64 99] rfl hL_ ?_; (with_reducible refine (term_Digits.calls t102 99 t104 t105 _ A3.out hG_).mono ?_); rintro e w5 ⟨rfl, hb⟩; refine ⟨_, rfl, ?_⟩; have n0_ := Aside0.mk (below_step hB_ hb); clear HB; have HB := n0_; clear n0_; (try clear hb); (try clear hb2); (try clear hk); (try clear hi)))
    go_ret2
    exact ⟨by first | rfl | (simp [errW_none, errW_some] <;> rfl) | (simp [*, errW_none, errW_some] <;> rfl), by repeat (first | (with_reducible first | exact HB.out | apply below_alloc | apply pw_below_drewN | apply below_drew1) | exact HB.out)⟩
  · replace c4 := Bool.eq_false_iff.mpr c4
    subst c4
    have H1 : (some (t104, false)) = some (r1, r2) := by rw [if_neg (show ¬ (false = true) by decide)] at H; exact H
    clear H
    have H := H1
    clear H1
    simp only [Option.some.injEq, Prod.mk.injEq] at H
    obtain ⟨rfl, rfl⟩ := H
    go_enter Tryd.func67, Tryd.ntmps67
    go_wp2_with (first | ((with_reducible refine gate_callee (f := 69) rfl ?_); refine goesL_ (some 10) rfl rfl Tryd.func69 (by kernel_rfl) rfl #[.string a0, .string (⟨#[64]⟩ : ByteArray)] rfl hL_ ?_; (with_reducible refine (strings_CutPrefix.calls a0 (⟨#[64]⟩ : ByteArray) t102 false _ A2.out).mono ?_); rintro e w' ⟨rfl, ⟨nd, rfl⟩⟩; refine ⟨_, rfl, ?_⟩) | ((with_reducible refine gate_callee (f := 78) rfl ?_); refine goesL_ (some 15) rfl rfl Tryd.func78 (by kernel_rfl) rfl #[.string t102, .int .i64 99] rfl hL_ ?_; (with_reducible refine (term_Digits.calls t102 99 t104 t105 _ A3.out hG_).mono ?_); rintro e w6 ⟨rfl, hb⟩; refine ⟨_, rfl, ?_⟩; have n0_ := Aside0.mk (below_step hB_ hb); clear HB; have HB := n0_; clear n0_; (try clear hb); (try clear hb2); (try clear hk); (try clear hi)))
    go_ret2
    exact ⟨by first | rfl | (simp [errW_none, errW_some] <;> rfl) | (simp [*, errW_none, errW_some] <;> rfl), by repeat (first | (with_reducible first | exact HB.out | apply below_alloc | apply pw_below_drewN | apply below_drew1) | exact HB.out)⟩

end Go.Proofs.YtpbobdgenjhjoaaDoor.G
end
section
-- Laid by the session's own driver gp.py over the kit's printer. Not trusted: Lean checks it.
namespace Go.Proofs.YtpbobdgenjhjoaaDoor.G
open Go.RowKit Go.Proofs.YtpbobdgenjhjoaaDoorW.PrintWords Go.Proofs.YtpbobdgenjhjoaaDoorW.PrintLast Go.Proofs.YtpbobdgenjhjoaaDoorW.PrintMore
attribute [local go_sem] max2_int min2_int max_two min_two max_three min_three max_four min_four   -- for this text's walks alone
set_option linter.unusedVariables false
set_option linter.unusedSimpArgs false

/-! ### strings_HasPrefix: function 68, given -/
def strings_HasPrefix.f (a0 : ByteArray) (a1 : ByteArray) : Option Bool := some (Lib.hasPrefix a0.data.toList a1.data.toList)
theorem strings_HasPrefix.calls (a0 : ByteArray) (a1 : ByteArray) (r : Bool) (w : World) (h : strings_HasPrefix.f a0 a1 = some r) :
    Calls Tryd.prog 68 #[.string a0, .string a1] w fun e w' => e = .returned (.bool r) ∧ Drawn0 w w' := by
  obtain rfl := Option.some.inj h
  refine (Tryd.strings_HasPrefix a0 a1 w).mono ?_
  rintro e w' ⟨rfl, rfl⟩
  exact ⟨rfl, Drawn0.refl _⟩

end Go.Proofs.YtpbobdgenjhjoaaDoor.G
end
section
-- Laid by the session's own driver gp.py over the kit's printer. Not trusted: Lean checks it.
namespace Go.Proofs.YtpbobdgenjhjoaaDoor.G
open Go.RowKit Go.Proofs.YtpbobdgenjhjoaaDoorW.PrintWords Go.Proofs.YtpbobdgenjhjoaaDoorW.PrintLast Go.Proofs.YtpbobdgenjhjoaaDoorW.PrintMore
attribute [local go_sem] max2_int min2_int max_two min_two max_three min_three max_four min_four   -- for this text's walks alone
set_option linter.unusedVariables false
set_option linter.unusedSimpArgs false

/-! ### term_cut: function 63 -/
mutual
def term_cut.j0 : Nat → ByteArray → Int → Bool → Bool → Option (Int × Int × List ByteArray × ByteArray × Bool)
  | 0, _, _, _, _ => none
  | k + 1, x8, x11, x12, x52 => if x52 = true then (some (2, x11, ([] : List ByteArray), x8, x12)) else (term_cut.l0 k x8 x11 ([] : List ByteArray))
def term_cut.l0 : Nat → ByteArray → Int → List ByteArray → Option (Int × Int × List ByteArray × ByteArray × Bool)
  | 0, _, _, _ => none
  | k + 1, x8, x11, x13 => if (x13.length : Int) < 3 then (if 1 ≤ (x8.size : Int) then ((term_cut.f k (x8.extract 1 x8.size)).bind fun bt115 => (if bt115.2.2.2.2 = true then (if 0 ≤ (wrap64 (((x8.extract 1 x8.size).size : Int) - (bt115.2.2.2.1.size : Int))) then (if (wrap64 (((x8.extract 1 x8.size).size : Int) - (bt115.2.2.2.1.size : Int))) ≤ ((x8.extract 1 x8.size).size : Int) then (if x13.length < 8796093022208 then ((some (x13 ++ [(x8.extract 1 x8.size).extract 0 ((wrap64 (((x8.extract 1 x8.size).size : Int) - (bt115.2.2.2.1.size : Int))) : Int).toNat] : List ByteArray)).bind fun y122 => ((strings_HasPrefix.f bt115.2.2.2.1 (⟨#[32]⟩ : ByteArray)).bind fun t125 => (if t125 = true then (term_cut.l0 k bt115.2.2.2.1 x11 y122) else ((strings_CutPrefix.f bt115.2.2.2.1 (⟨#[41]⟩ : ByteArray)).bind fun bt126 => (some (2, x11, y122, bt126.1, bt126.2)))))) else (none)) else (none)) else (none)) else (some (0, 0, ([] : List ByteArray), (⟨#[]⟩ : ByteArray), false)))) else (none)) else ((strings_CutPrefix.f x8 (⟨#[41]⟩ : ByteArray)).bind fun bt113 => (some (2, x11, x13, bt113.1, bt113.2)))
def term_cut.f : Nat → ByteArray → Option (Int × Int × List ByteArray × ByteArray × Bool)
  | 0, _ => none
  | k + 1, a0 => (term_word.f a0).bind fun bt106 => (if bt106.1.toList = ([95] : List UInt8) then (some (0, 0, ([] : List ByteArray), bt106.2, true)) else (if bt106.1.toList = ([33] : List UInt8) then (some (3, 0, ([] : List ByteArray), bt106.2, true)) else ((term_Number.f bt106.1).bind fun bt108 => (if bt108.2 = true then (some (1, bt108.1, ([] : List ByteArray), bt106.2, true)) else ((term_Tag.f bt106.1).bind fun bt110 => (if bt110.2 = true then ((strings_HasPrefix.f bt106.2 (⟨#[40]⟩ : ByteArray)).bind fun t112 => (term_cut.j0 k bt106.2 bt110.1 bt110.2 (!t112))) else (term_cut.j0 k bt106.2 bt110.1 bt110.2 true)))))))
end
theorem term_cut.mono_l : ∀ k, (∀ y0, LeO (term_cut.f k y0) (term_cut.f (k + 1) y0)) ∧ (∀ y0 y1 y2 y3, LeO (term_cut.j0 k y0 y1 y2 y3) (term_cut.j0 (k + 1) y0 y1 y2 y3)) ∧ (∀ y0 y1 y2, LeO (term_cut.l0 k y0 y1 y2) (term_cut.l0 (k + 1) y0 y1 y2))
  | 0 => ⟨fun _ r h => by simp [term_cut.f] at h, fun _ _ _ _ r h => by simp [term_cut.j0] at h, fun _ _ _ r h => by simp [term_cut.l0] at h⟩
  | k + 1 => by
    obtain ⟨ih0, ih1, ih2⟩ := term_cut.mono_l k
    refine ⟨?_, ?_, ?_⟩
    · intro y0
      unfold term_cut.f
      repeat' first
      | (with_reducible exact ih0 _)
      | (with_reducible exact ih1 _ _ _ _)
      | (with_reducible exact ih2 _ _ _)
      | (with_reducible exact LeO.refl _)
      | (with_reducible exact LeO.none _)
      | (with_reducible refine LeO.ite ?_ ?_)
      | (with_reducible refine LeO.bind ?_ (fun _ => ?_))
      | exact ih0 _
      | exact ih1 _ _ _ _
      | exact ih2 _ _ _
      | exact LeO.none _
      | refine LeO.ite ?_ ?_
      | refine LeO.bind ?_ (fun _ => ?_)
    · intro y0 y1 y2 y3
      unfold term_cut.j0
      repeat' first
      | (with_reducible exact ih0 _)
      | (with_reducible exact ih1 _ _ _ _)
      | (with_reducible exact ih2 _ _ _)
      | (with_reducible exact LeO.refl _)
      | (with_reducible exact LeO.none _)
      | (with_reducible refine LeO.ite ?_ ?_)
      | (with_reducible refine LeO.bind ?_ (fun _ => ?_))
      | exact ih0 _
      | exact ih1 _ _ _ _
      | exact ih2 _ _ _
      | exact LeO.none _
      | refine LeO.ite ?_ ?_
      | refine LeO.bind ?_ (fun _ => ?_)
    · intro y0 y1 y2
      unfold term_cut.l0
      repeat' first
      | (with_reducible exact ih0 _)
      | (with_reducible exact ih1 _ _ _ _)
      | (with_reducible exact ih2 _ _ _)
      | (with_reducible exact LeO.refl _)
      | (with_reducible exact LeO.none _)
      | (with_reducible refine LeO.ite ?_ ?_)
      | (with_reducible refine LeO.bind ?_ (fun _ => ?_))
      | exact ih0 _
      | exact ih1 _ _ _ _
      | exact ih2 _ _ _
      | exact LeO.none _
      | refine LeO.ite ?_ ?_
      | refine LeO.bind ?_ (fun _ => ?_)
theorem term_cut.mono : ∀ a0 k, LeO (term_cut.f k a0) (term_cut.f (k + 1) a0) := by
  intro a0 k
  obtain ⟨ih0, ih1, ih2⟩ := term_cut.mono_l k
  exact ih0 a0
set_option maxHeartbeats 8000000 in
set_option maxRecDepth 100000 in
theorem term_cut.calls (k : Nat) : ∀ (a0 : ByteArray) (r1 : Int) (r2 : Int) (r3 : List ByteArray) (r4 : ByteArray) (r5 : Bool) (w : World) (h : term_cut.f k a0 = some (r1, r2, r3, r4, r5)) (hG : GOK w),
    Calls Tryd.prog 63 #[.string a0] w fun e w' => ∃ v2_ : Value, e = .returned (.tuple #[.int .i64 r1, .int .i64 r2, v2_, .string r4, .bool r5]) ∧ Kd.R Kd.string 9 w' w.heap.size (fun _ => True) v2_ r3 ∧ Below w.heap.size w w' := by
  induction k using Nat.strongRecOn with
  | _ k ih =>
  intro a0 r1 r2 r3 r4 r5 w h hG
  cases k with
  | zero => exact absurd h (by simp [term_cut.f])
  | succ k =>
  simp only [term_cut.f] at h
  have HB := Aside0.mk (Below.refl w.heap.size w)
  have H : ((term_word.f a0).bind fun bt106 => (if bt106.1.toList = ([95] : List UInt8) then (some (0, 0, ([] : List ByteArray), bt106.2, true)) else (if bt106.1.toList = ([33] : List UInt8) then (some (3, 0, ([] : List ByteArray), bt106.2, true)) else ((term_Number.f bt106.1).bind fun bt108 => (if bt108.2 = true then (some (1, bt108.1, ([] : List ByteArray), bt106.2, true)) else ((term_Tag.f bt106.1).bind fun bt110 => (if bt110.2 = true then ((strings_HasPrefix.f bt106.2 (⟨#[40]⟩ : ByteArray)).bind fun t112 => (term_cut.j0 k bt106.2 bt110.1 bt110.2 (!t112))) else (term_cut.j0 k bt106.2 bt110.1 bt110.2 true)))))))) = some (r1, r2, r3, r4, r5) := h
  clear h
  replace H := Option.bind_eq_some_iff.mp H
  obtain ⟨⟨t106, t107⟩, A20, H⟩ := H
  replace H : (if t106.toList = ([95] : List UInt8) then (some (0, 0, ([] : List ByteArray), t107, true)) else (if t106.toList = ([33] : List UInt8) then (some (3, 0, ([] : List ByteArray), t107, true)) else ((term_Number.f t106).bind fun bt108 => (if bt108.2 = true then (some (1, bt108.1, ([] : List ByteArray), t107, true)) else ((term_Tag.f t106).bind fun bt110 => (if bt110.2 = true then ((strings_HasPrefix.f t107 (⟨#[40]⟩ : ByteArray)).bind fun t112 => (term_cut.j0 k t107 bt110.1 bt110.2 (!t112))) else (term_cut.j0 k t107 bt110.1 bt110.2 true))))))) = some (r1, r2, r3, r4, r5) := H
  have A2 := Aside0.mk A20
  clear A20
  by_cases c3 : t106.toList = ([95] : List UInt8)
  · rw [if_pos c3] at H
    have c3b0 : (t106.toList == ([95] : List UInt8)) = true := beq_iff_eq.mpr c3
    have c3b1 : (t106.toList != ([95] : List UInt8)) = false := bne_eq_false_iff_eq.mpr c3
    clear c3
    simp only [Option.some.injEq, Prod.mk.injEq] at H
    obtain ⟨rfl, rfl, rfl, rfl, rfl⟩ := H
    go_enter Tryd.func63, Tryd.ntmps63
    go_wp2_with (first | ((with_reducible refine gate_callee (f := 65) rfl ?_); refine goesL_ (some 24) rfl rfl Tryd.func65 (by kernel_rfl) rfl #[.string a0] rfl hL_ ?_; (with_reducible refine (term_word.calls a0 t106 t107 _ A2.out).mono ?_); rintro e w4 ⟨rfl, hb⟩; refine ⟨_, rfl, ?_⟩; have n0_ := Aside0.mk (below_step hB_ hb); clear HB; have HB := n0_; clear n0_; (try clear hb); (try clear hb2); (try clear hk); (try clear hi)))
    refine bodyPost_ret (results_list (rs := [.tmp 2, .tmp 3, .tmp 4, .tmp 5, .tmp 6]) rfl (by simp) (.tmp (.tmp (.tmp (.tmp (.tmp .nil)))))) rfl ?_
    exact ⟨_, by first | rfl | (simp [errW_none, errW_some] <;> rfl) | (simp [*, errW_none, errW_some] <;> rfl), by first | exact Kd.R_nil _ _ _ _ _ | exact Kd.N_nil _ _ _ _ _ | exact Kd.V_nil _ _ _ _ _ | exact Kd.Q_nil _ _ _ _ _ | exact Kd.S_nil _ _ _ _ _, by repeat (first | (with_reducible first | exact HB.out | apply below_alloc | apply pw_below_drewN | apply below_drew1) | exact HB.out)⟩
  · rw [if_neg c3] at H
    have c3b0 : (t106.toList == ([95] : List UInt8)) = false := beq_eq_false_iff_ne.mpr c3
    have c3b1 : (t106.toList != ([95] : List UInt8)) = true := bne_iff_ne.mpr c3
    by_cases c5 : t106.toList = ([33] : List UInt8)
    · rw [if_pos c5] at H
      have c5b0 : (t106.toList == ([33] : List UInt8)) = true := beq_iff_eq.mpr c5
      have c5b1 : (t106.toList != ([33] : List UInt8)) = false := bne_eq_false_iff_eq.mpr c5
      clear c5
      simp only [Option.some.injEq, Prod.mk.injEq] at H
      obtain ⟨rfl, rfl, rfl, rfl, rfl⟩ := H
      go_enter Tryd.func63, Tryd.ntmps63
      go_wp2_with (first | ((with_reducible refine gate_callee (f := 65) rfl ?_); refine goesL_ (some 24) rfl rfl Tryd.func65 (by kernel_rfl) rfl #[.string a0] rfl hL_ ?_; (with_reducible refine (term_word.calls a0 t106 t107 _ A2.out).mono ?_); rintro e w6 ⟨rfl, hb⟩; refine ⟨_, rfl, ?_⟩; have n0_ := Aside0.mk (below_step hB_ hb); clear HB; have HB := n0_; clear n0_; (try clear hb); (try clear hb2); (try clear hk); (try clear hi)))
      refine bodyPost_ret (results_list (rs := [.tmp 2, .tmp 3, .tmp 4, .tmp 5, .tmp 6]) rfl (by simp) (.tmp (.tmp (.tmp (.tmp (.tmp .nil)))))) rfl ?_
      exact ⟨_, by first | rfl | (simp [errW_none, errW_some] <;> rfl) | (simp [*, errW_none, errW_some] <;> rfl), by first | exact Kd.R_nil _ _ _ _ _ | exact Kd.N_nil _ _ _ _ _ | exact Kd.V_nil _ _ _ _ _ | exact Kd.Q_nil _ _ _ _ _ | exact Kd.S_nil _ _ _ _ _, by repeat (first | (with_reducible first | exact HB.out | apply below_alloc | apply pw_below_drewN | apply below_drew1) | exact HB.out)⟩
    · rw [if_neg c5] at H
      have c5b0 : (t106.toList == ([33] : List UInt8)) = false := beq_eq_false_iff_ne.mpr c5
      have c5b1 : (t106.toList != ([33] : List UInt8)) = true := bne_iff_ne.mpr c5
      replace H := Option.bind_eq_some_iff.mp H
      obtain ⟨⟨t108, t109⟩, A70, H⟩ := H
      replace H : (if t109 = true then (some (1, t108, ([] : List ByteArray), t107, true)) else ((term_Tag.f t106).bind fun bt110 => (if bt110.2 = true then ((strings_HasPrefix.f t107 (⟨#[40]⟩ : ByteArray)).bind fun t112 => (term_cut.j0 k t107 bt110.1 bt110.2 (!t112))) else (term_cut.j0 k t107 bt110.1 bt110.2 true)))) = some (r1, r2, r3, r4, r5) := H
      have A7 := Aside0.mk A70
      clear A70
      by_cases c8 : t109 = true
      · subst c8
        have H1 : (some (1, t108, ([] : List ByteArray), t107, true)) = some (r1, r2, r3, r4, r5) := by rw [if_pos rfl] at H; exact H
        clear H
        have H := H1
        clear H1
        simp only [Option.some.injEq, Prod.mk.injEq] at H
        obtain ⟨rfl, rfl, rfl, rfl, rfl⟩ := H
        go_enter Tryd.func63, Tryd.ntmps63
        go_wp2_with (first | ((with_reducible refine gate_callee (f := 65) rfl ?_); refine goesL_ (some 24) rfl rfl Tryd.func65 (by kernel_rfl) rfl #[.string a0] rfl hL_ ?_; (with_reducible refine (term_word.calls a0 t106 t107 _ A2.out).mono ?_); rintro e w9 ⟨rfl, hb⟩; refine ⟨_, rfl, ?_⟩; have n0_ := Aside0.mk (below_step hB_ hb); clear HB; have HB := n0_; clear n0_; (try clear hb); (try clear hb2); (try clear hk); (try clear hi)) | ((with_reducible refine gate_callee (f := 66) rfl ?_); refine goesL_ (some 35) rfl rfl Tryd.func66 (by kernel_rfl) rfl #[.string t106] rfl hL_ ?_; (with_reducible refine (term_Number.calls t106 t108 true _ A7.out hG_).mono ?_); rintro e w10 ⟨rfl, hb⟩; refine ⟨_, rfl, ?_⟩; have n0_ := Aside0.mk (below_step hB_ hb); clear HB; have HB := n0_; clear n0_; (try clear hb); (try clear hb2); (try clear hk); (try clear hi)))
        refine bodyPost_ret (results_list (rs := [.tmp 2, .tmp 3, .tmp 4, .tmp 5, .tmp 6]) rfl (by simp) (.tmp (.tmp (.tmp (.tmp (.tmp .nil)))))) rfl ?_
        exact ⟨_, by first | rfl | (simp [errW_none, errW_some] <;> rfl) | (simp [*, errW_none, errW_some] <;> rfl), by first | exact Kd.R_nil _ _ _ _ _ | exact Kd.N_nil _ _ _ _ _ | exact Kd.V_nil _ _ _ _ _ | exact Kd.Q_nil _ _ _ _ _ | exact Kd.S_nil _ _ _ _ _, by repeat (first | (with_reducible first | exact HB.out | apply below_alloc | apply pw_below_drewN | apply below_drew1) | exact HB.out)⟩
      · replace c8 := Bool.eq_false_iff.mpr c8
        subst c8
        have H1 : ((term_Tag.f t106).bind fun bt110 => (if bt110.2 = true then ((strings_HasPrefix.f t107 (⟨#[40]⟩ : ByteArray)).bind fun t112 => (term_cut.j0 k t107 bt110.1 bt110.2 (!t112))) else (term_cut.j0 k t107 bt110.1 bt110.2 true))) = some (r1, r2, r3, r4, r5) := by rw [if_neg (show ¬ (false = true) by decide)] at H; exact H
        clear H
        have H := H1
        clear H1
        replace H := Option.bind_eq_some_iff.mp H
        obtain ⟨⟨t110, t111⟩, A110, H⟩ := H
        replace H : (if t111 = true then ((strings_HasPrefix.f t107 (⟨#[40]⟩ : ByteArray)).bind fun t112 => (term_cut.j0 k t107 t110 t111 (!t112))) else (term_cut.j0 k t107 t110 t111 true)) = some (r1, r2, r3, r4, r5) := H
        have A11 := Aside0.mk A110
        clear A110
        have HC12 := Aside0.mk H
        clear H
        go_enter Tryd.func63, Tryd.ntmps63
        go_upto_region 10 with (first | ((with_reducible refine gate_callee (f := 65) rfl ?_); refine goesL_ (some 24) rfl rfl Tryd.func65 (by kernel_rfl) rfl #[.string a0] rfl hL_ ?_; (with_reducible refine (term_word.calls a0 t106 t107 _ A2.out).mono ?_); rintro e w13 ⟨rfl, hb⟩; refine ⟨_, rfl, ?_⟩; have n0_ := Aside0.mk (below_step hB_ hb); clear HB; have HB := n0_; clear n0_; (try clear hb); (try clear hb2); (try clear hk); (try clear hi)) | ((with_reducible refine gate_callee (f := 66) rfl ?_); refine goesL_ (some 35) rfl rfl Tryd.func66 (by kernel_rfl) rfl #[.string t106] rfl hL_ ?_; (with_reducible refine (term_Number.calls t106 t108 false _ A7.out hG_).mono ?_); rintro e w14 ⟨rfl, hb⟩; refine ⟨_, rfl, ?_⟩; have n0_ := Aside0.mk (below_step hB_ hb); clear HB; have HB := n0_; clear n0_; (try clear hb); (try clear hb2); (try clear hk); (try clear hi)) | ((with_reducible refine gate_callee (f := 67) rfl ?_); refine goesL_ (some 43) rfl rfl Tryd.func67 (by kernel_rfl) rfl #[.string t106] rfl hL_ ?_; (with_reducible refine (term_Tag.calls t106 t110 t111 _ A11.out hG_).mono ?_); rintro e w15 ⟨rfl, hb⟩; refine ⟨_, rfl, ?_⟩; have n0_ := Aside0.mk (below_step hB_ hb); clear HB; have HB := n0_; clear n0_; (try clear hb); (try clear hb2); (try clear hk); (try clear hi)))
        (try simp only [Act.put, List.setIfInBounds_toArray, List.set_cons_zero, List.set_cons_succ])
        go_cut [52] (fun v52 wc => ∃ (kq : Nat) (x52_11 : Bool), v52 = .bool x52_11 ∧ Aside0 (term_cut.j0 kq t107 t110 t111 x52_11 = some (r1, r2, r3, r4, r5)) ∧ Aside0 (kq ≤ k) ∧ Aside0 (Below w.heap.size w wc))
        case first =>
          have H := HC12.out
          clear HC12
          by_cases c16 : t111 = true
          · subst c16
            have H1 : ((strings_HasPrefix.f t107 (⟨#[40]⟩ : ByteArray)).bind fun t112 => (term_cut.j0 k t107 t110 true (!t112))) = some (r1, r2, r3, r4, r5) := by rw [if_pos rfl] at H; exact H
            clear H
            have H := H1
            clear H1
            replace H := Option.bind_eq_some_iff.mp H
            obtain ⟨t112, A170, H⟩ := H
            replace H : (term_cut.j0 k t107 t110 true (!t112)) = some (r1, r2, r3, r4, r5) := H
            have A17 := Aside0.mk A170
            clear A170
            have H' := Aside0.mk H
            clear H
            go_wp2_with (first | (go_at_call 68; (with_reducible refine (strings_HasPrefix.calls t107 (⟨#[40]⟩ : ByteArray) t112 _ A17.out).mono ?_); rintro e w' ⟨rfl, ⟨nd, rfl⟩⟩))
            go_meet
            case rel => exact ⟨_, (!t112), (by first | rfl | (simp; done) | (simp [*]; done)), H', ⟨by first | omega | exact Nat.le_refl _⟩, ⟨by repeat (first | (with_reducible first | exact HB.out | apply below_alloc | apply pw_below_drewN | apply below_drew1) | exact HB.out)⟩⟩
          · replace c16 := Bool.eq_false_iff.mpr c16
            subst c16
            have H1 : (term_cut.j0 k t107 t110 false true) = some (r1, r2, r3, r4, r5) := by rw [if_neg (show ¬ (false = true) by decide)] at H; exact H
            clear H
            have H := H1
            clear H1
            have H' := Aside0.mk H
            clear H
            go_wp2
            go_meet
            case rel => exact ⟨_, (true), (by first | rfl | (simp; done) | (simp [*]; done)), H', ⟨by first | omega | exact Nat.le_refl _⟩, ⟨by repeat (first | (with_reducible first | exact HB.out | apply below_alloc | apply pw_below_drewN | apply below_drew1) | exact HB.out)⟩⟩
        case rest =>
          clear HC12
          try clear c1
          try clear p2
          try clear c3
          try clear c3b0
          try clear c3b1
          try clear c5
          try clear c5b0
          try clear c5b1
          try clear c6
          try clear c8
          try clear c16
          obtain ⟨kq, x52_11, rfl, HA, HJ11, HB⟩ := hcut
          cases kq with
          | zero => exact absurd HA.out (by simp [term_cut.j0])
          | succ kj11 =>
            have H := HA.out
            clear HA
            simp only [term_cut.j0] at H
            by_cases c18 : x52_11 = true
            · subst c18
              have H1 : (some (2, t110, ([] : List ByteArray), t107, t111)) = some (r1, r2, r3, r4, r5) := by rw [if_pos rfl] at H; exact H
              clear H
              have H := H1
              clear H1
              simp only [Option.some.injEq, Prod.mk.injEq] at H
              obtain ⟨rfl, rfl, rfl, rfl, rfl⟩ := H
              go_wp2
              refine bodyPost_ret (results_list (rs := [.tmp 2, .tmp 3, .tmp 4, .tmp 5, .tmp 6]) rfl (by simp) (.tmp (.tmp (.tmp (.tmp (.tmp .nil)))))) rfl ?_
              exact ⟨_, by first | rfl | (simp [errW_none, errW_some] <;> rfl) | (simp [*, errW_none, errW_some] <;> rfl), by first | exact Kd.R_nil _ _ _ _ _ | exact Kd.N_nil _ _ _ _ _ | exact Kd.V_nil _ _ _ _ _ | exact Kd.Q_nil _ _ _ _ _ | exact Kd.S_nil _ _ _ _ _, by repeat (first | (with_reducible first | exact HB.out | apply below_alloc | apply pw_below_drewN | apply below_drew1) | exact HB.out)⟩
            · replace c18 := Bool.eq_false_iff.mpr c18
              subst c18
              have H1 : (term_cut.l0 kj11 t107 t110 ([] : List ByteArray)) = some (r1, r2, r3, r4, r5) := by rw [if_neg (show ¬ (false = true) by decide)] at H; exact H
              clear H
              have H := H1
              clear H1
              have H' := Aside0.mk H
              clear H
              go_wp2
              go_loopg [8, 13] kj11 (fun kq v8 v13 w' => ∃ (x8_2 : ByteArray) (x13_2 : List ByteArray), v8 = .string x8_2 ∧ Aside0 (term_cut.l0 kq x8_2 t110 x13_2 = some (r1, r2, r3, r4, r5)) ∧ Aside0 (kq ≤ kj11) ∧ Aside0 (Kd.R Kd.string 9 w' w.heap.size (fun _ => True) v13 x13_2) ∧ Aside0 (Below w.heap.size w w'))
              case atStart => exact ⟨(t107), (([] : List ByteArray)), (by first | rfl | (simp; done) | (simp [*]; done)), H', ⟨Nat.le_refl _⟩, ⟨by first | exact Kd.R_nil _ _ _ _ _ | exact Kd.N_nil _ _ _ _ _ | exact Kd.V_nil _ _ _ _ _ | exact Kd.Q_nil _ _ _ _ _ | exact Kd.S_nil _ _ _ _ _⟩, ⟨by repeat (first | (with_reducible first | exact HB.out | apply below_alloc | apply pw_below_drewN | apply below_drew1) | exact HB.out)⟩⟩
              case round =>
                clear H'
                try clear c1
                try clear p2
                try clear c3
                try clear c3b0
                try clear c3b1
                try clear c5
                try clear c5b0
                try clear c5b1
                try clear c6
                try clear c8
                try clear c16
                try clear c18
                try clear p2
                obtain ⟨x8_2, x13_2, rfl, HA, HK2, HO_13, HB⟩ := hrel
                cases gk with
                | zero => exact absurd HA.out (by simp [term_cut.l0])
                | succ k2 =>
                  have H := HA.out
                  clear HA
                  simp only [term_cut.l0] at H
                  by_cases c19 : (x13_2.length : Int) < 3
                  · rw [if_pos c19] at H
                    have c19b0 : decide ((x13_2.length : Int) < 3) = true := decide_eq_true c19
                    have c19b1 : decide (x13_2.length < 3) = true := decide_eq_true (by omega)
                    clear c19
                    by_cases c20 : 1 ≤ (x8_2.size : Int)
                    · rw [if_pos c20] at H
                      have c20b0 := eq_true c20
                      have c20b1 : decide (1 ≤ (x8_2.size : Int)) = true := decide_eq_true c20
                      clear c20
                      replace H := Option.bind_eq_some_iff.mp H
                      obtain ⟨⟨t115, t116, t117, t118, t119⟩, A210, H⟩ := H
                      replace H : (if t119 = true then (if 0 ≤ (wrap64 (((x8_2.extract 1 x8_2.size).size : Int) - (t118.size : Int))) then (if (wrap64 (((x8_2.extract 1 x8_2.size).size : Int) - (t118.size : Int))) ≤ ((x8_2.extract 1 x8_2.size).size : Int) then (if x13_2.length < 8796093022208 then ((some (x13_2 ++ [(x8_2.extract 1 x8_2.size).extract 0 ((wrap64 (((x8_2.extract 1 x8_2.size).size : Int) - (t118.size : Int))) : Int).toNat] : List ByteArray)).bind fun y122 => ((strings_HasPrefix.f t118 (⟨#[32]⟩ : ByteArray)).bind fun t125 => (if t125 = true then (term_cut.l0 k2 t118 t110 y122) else ((strings_CutPrefix.f t118 (⟨#[41]⟩ : ByteArray)).bind fun bt126 => (some (2, t110, y122, bt126.1, bt126.2)))))) else (none)) else (none)) else (none)) else (some (0, 0, ([] : List ByteArray), (⟨#[]⟩ : ByteArray), false))) = some (r1, r2, r3, r4, r5) := H
                      have A21 := Aside0.mk A210
                      clear A210
                      by_cases c22 : t119 = true
                      · subst c22
                        have H1 : (if 0 ≤ (wrap64 (((x8_2.extract 1 x8_2.size).size : Int) - (t118.size : Int))) then (if (wrap64 (((x8_2.extract 1 x8_2.size).size : Int) - (t118.size : Int))) ≤ ((x8_2.extract 1 x8_2.size).size : Int) then (if x13_2.length < 8796093022208 then ((some (x13_2 ++ [(x8_2.extract 1 x8_2.size).extract 0 ((wrap64 (((x8_2.extract 1 x8_2.size).size : Int) - (t118.size : Int))) : Int).toNat] : List ByteArray)).bind fun y122 => ((strings_HasPrefix.f t118 (⟨#[32]⟩ : ByteArray)).bind fun t125 => (if t125 = true then (term_cut.l0 k2 t118 t110 y122) else ((strings_CutPrefix.f t118 (⟨#[41]⟩ : ByteArray)).bind fun bt126 => (some (2, t110, y122, bt126.1, bt126.2)))))) else (none)) else (none)) else (none)) = some (r1, r2, r3, r4, r5) := by rw [if_pos rfl] at H; exact H
                        clear H
                        have H := H1
                        clear H1
                        obtain ⟨ji23, hji23⟩ : ∃ j_ : Int, (wrap64 (((x8_2.extract 1 x8_2.size).size : Int) - (t118.size : Int))) = j_ := ⟨_, rfl⟩
                        replace H : (if 0 ≤ (ji23) then (if (ji23) ≤ ((x8_2.extract 1 x8_2.size).size : Int) then (if x13_2.length < 8796093022208 then ((some (x13_2 ++ [(x8_2.extract 1 x8_2.size).extract 0 ((ji23) : Int).toNat] : List ByteArray)).bind fun y122 => ((strings_HasPrefix.f t118 (⟨#[32]⟩ : ByteArray)).bind fun t125 => (if t125 = true then (term_cut.l0 k2 t118 t110 y122) else ((strings_CutPrefix.f t118 (⟨#[41]⟩ : ByteArray)).bind fun bt126 => (some (2, t110, y122, bt126.1, bt126.2)))))) else (none)) else (none)) else (none)) = some (r1, r2, r3, r4, r5) := by first | (rw [hji23] at H; exact H) | (simp only [hji23] at H ⊢; exact H)
                        (try rw [hji23] at A21)
                        have hji23w : (IntKind.i64.wrap (((x8_2.extract 1 x8_2.size).size : Int) - (t118.size : Int))) = ji23 := (i64_w _).trans hji23
                        (try (have hji23s := hji23; simp only [ByteArray.size_extract, Nat.min_self] at hji23s; have hji23sw := hji23w; simp only [ByteArray.size_extract, Nat.min_self] at hji23sw))
                        by_cases c24 : 0 ≤ (ji23)
                        · rw [if_pos c24] at H
                          have c24b0 := eq_true c24
                          have c24b1 : decide (0 ≤ (ji23)) = true := decide_eq_true c24
                          clear c24
                          by_cases c25 : (ji23) ≤ ((x8_2.extract 1 x8_2.size).size : Int)
                          · rw [if_pos c25] at H
                            have c25b0 := eq_true c25
                            (try (have c25b0s := c25b0; simp only [ByteArray.size_extract, Nat.min_self] at c25b0s))
                            have c25b1 : decide ((ji23) ≤ ((x8_2.extract 1 x8_2.size).size : Int)) = true := decide_eq_true c25
                            (try (have c25b1s := c25b1; simp only [ByteArray.size_extract, Nat.min_self] at c25b1s))
                            clear c25
                            by_cases c26 : x13_2.length < 8796093022208
                            · rw [if_pos c26] at H
                              have LMc26 := Aside0.mk c26
                              clear c26
                              obtain ⟨y122, hy122⟩ : ∃ y_ : List ByteArray, y_ = (x13_2 ++ [(x8_2.extract 1 x8_2.size).extract 0 ((ji23) : Int).toNat]) := ⟨_, rfl⟩
                              replace H : ((strings_HasPrefix.f t118 (⟨#[32]⟩ : ByteArray)).bind fun t125 => (if t125 = true then (term_cut.l0 k2 t118 t110 y122) else ((strings_CutPrefix.f t118 (⟨#[41]⟩ : ByteArray)).bind fun bt126 => (some (2, t110, y122, bt126.1, bt126.2))))) = some (r1, r2, r3, r4, r5) := by first | (rw [hy122]; with_reducible exact H) | (have H2_ := (Option.bind_some _ _).symm.trans H; rw [hy122]; with_reducible exact H2_) | (have H2_ := (Option.bind_some _ _).symm.trans H; with_reducible exact H2_) | with_reducible exact H | (rw [hy122]; exact H) | exact H
                              have Ny122 := Aside0.mk hy122
                              clear hy122
                              replace H := Option.bind_eq_some_iff.mp H
                              obtain ⟨t125, A270, H⟩ := H
                              replace H : (if t125 = true then (term_cut.l0 k2 t118 t110 y122) else ((strings_CutPrefix.f t118 (⟨#[41]⟩ : ByteArray)).bind fun bt126 => (some (2, t110, y122, bt126.1, bt126.2)))) = some (r1, r2, r3, r4, r5) := H
                              have A27 := Aside0.mk A270
                              clear A270
                              by_cases c28 : t125 = true
                              · subst c28
                                have H1 : (term_cut.l0 k2 t118 t110 y122) = some (r1, r2, r3, r4, r5) := by rw [if_pos rfl] at H; exact H
                                clear H
                                have H := H1
                                clear H1
                                have H' := Aside0.mk H
                                clear H
                                obtain ⟨Ao29, co29, eo29⟩ := Kd.R_slice HO_13.out
                                subst eo29
                                go_wp2_with (first | ((with_reducible refine gate_callee (f := 63) rfl ?_); refine goesL_ (some 63) rfl rfl Tryd.func63 (by kernel_rfl) rfl #[.string (x8_2.extract 1 x8_2.size)] rfl hL_ ?_; (with_reducible refine (ih k2 (by have := HJ11.out; have := HK2.out; omega) (x8_2.extract 1 x8_2.size) t115 t116 t117 t118 true _ A21.out hG_).mono ?_); rintro e w30 ⟨v120, rfl, ho0, hb⟩; refine ⟨_, rfl, ?_⟩; have n0_ := Aside0.mk (Kd.R_elder' (hR_ HO_13.out) (Kd.R_base ho0) hb); have n1_ := Aside0.mk (Kd.R_lower (Kd.R_new' ho0 (Kd.R_lt (hR_ HO_13.out))) hS_); have n2_ := Aside0.mk (below_step hB_ hb); clear HO_13; clear HB; have HO_13 := n0_; have HO121 := n1_; have HB := n2_; clear n0_ n1_ n2_; (try clear hb); (try clear hb2); (try clear hk); (try clear hi); (try clear ho0)) | ((with_reducible refine gate_builtin (b := .append) (xs := #[.tmp 71, .tmp 79]) rfl ?_); at_builtin; refine Kd.R_append Kd.string (w0 := w) w.heap.size rfl (.tmp 71) (.tmp 79) 39 9 (.string ⟨#[]⟩) 16 rfl Tryd.underlying39 info9 rfl (by decide) (by omega) (.slice Ao29 x13_2.length co29) x13_2 ((x8_2.extract 1 x8_2.size).extract 0 ((ji23) : Int).toNat) [.string ((x8_2.extract 1 x8_2.size).extract 0 ((ji23) : Int).toNat)] (fun k_ => some k_ ≠ (v120 : Value).ownBlock) (fun _ => False) rfl rfl ?aP (fun _ hk => hk.elim) ?aF ?aO ?aB ?aS ?aL ?_; (case aP => exact rfl); (case aB => exact hB_); (case aF => exact (fun k_ hk => Kd.fresh' (Kd.R_lt (hR_ HO121.out)) k_ hk)); (case aO => exact (by (with_reducible repeat (first | apply Kd.R_alloc | apply Kd.R_drewN | apply Kd.R_drew)); exact Kd.R_mono HO_13.out (fun _ hk => hk.2))); (case aS => exact hS_); (case aL => have := LMc26.out; omega); intro v123 w31 ho hb hg hat; rw [← Ny122.out] at ho; have n0_ := Aside0.mk (Kd.R_after (ok := (fun _ => True)) (hR_ HO121.out) hg hat); have n1_ := Aside0.mk (hb); have n2_ := Aside0.mk (ho); clear HO121; clear HB; clear HO_13; have HO121 := n0_; have HB := n1_; have HO124 := n2_; clear n0_ n1_ n2_; clear ho hb hg hat) | ((with_reducible refine gate_callee (f := 68) rfl ?_); refine goesL_ (some 83) rfl rfl Tryd.func68 (by kernel_rfl) rfl #[.string t118, .string (⟨#[32]⟩ : ByteArray)] rfl hL_ ?_; (with_reducible refine (strings_HasPrefix.calls t118 (⟨#[32]⟩ : ByteArray) true _ A27.out).mono ?_); rintro e w' ⟨rfl, ⟨nd, rfl⟩⟩; refine ⟨_, rfl, ?_⟩))
                                go_roundg k2
                                case measure => have := HJ11.out; have := HK2.out; omega
                                case rel => exact ⟨(t118), (y122), (by first | rfl | (simp; done) | (simp [*]; done)), H', ⟨by have := HJ11.out; have := HK2.out; omega⟩, ⟨by (with_reducible repeat (first | apply Kd.R_alloc | apply Kd.R_drewN | apply Kd.R_drew)); exact Kd.R_mono HO124.out (fun _ hk => trivial)⟩, ⟨by repeat (first | (with_reducible first | exact HB.out | apply below_alloc | apply pw_below_drewN | apply below_drew1) | exact HB.out)⟩⟩
                              · replace c28 := Bool.eq_false_iff.mpr c28
                                subst c28
                                have H1 : ((strings_CutPrefix.f t118 (⟨#[41]⟩ : ByteArray)).bind fun bt126 => (some (2, t110, y122, bt126.1, bt126.2))) = some (r1, r2, r3, r4, r5) := by rw [if_neg (show ¬ (false = true) by decide)] at H; exact H
                                clear H
                                have H := H1
                                clear H1
                                replace H := Option.bind_eq_some_iff.mp H
                                obtain ⟨⟨t126, t127⟩, A320, H⟩ := H
                                replace H : (some (2, t110, y122, t126, t127)) = some (r1, r2, r3, r4, r5) := H
                                have A32 := Aside0.mk A320
                                clear A320
                                simp only [Option.some.injEq, Prod.mk.injEq] at H
                                obtain ⟨rfl, rfl, rfl, rfl, rfl⟩ := H
                                obtain ⟨Ao33, co33, eo33⟩ := Kd.R_slice HO_13.out
                                subst eo33
                                go_wp2_with (first | ((with_reducible refine gate_callee (f := 63) rfl ?_); refine goesL_ (some 63) rfl rfl Tryd.func63 (by kernel_rfl) rfl #[.string (x8_2.extract 1 x8_2.size)] rfl hL_ ?_; (with_reducible refine (ih k2 (by have := HJ11.out; have := HK2.out; omega) (x8_2.extract 1 x8_2.size) t115 t116 t117 t118 true _ A21.out hG_).mono ?_); rintro e w34 ⟨v120, rfl, ho0, hb⟩; refine ⟨_, rfl, ?_⟩; have n0_ := Aside0.mk (Kd.R_elder' (hR_ HO_13.out) (Kd.R_base ho0) hb); have n1_ := Aside0.mk (Kd.R_lower (Kd.R_new' ho0 (Kd.R_lt (hR_ HO_13.out))) hS_); have n2_ := Aside0.mk (below_step hB_ hb); clear HO_13; clear HB; have HO_13 := n0_; have HO121 := n1_; have HB := n2_; clear n0_ n1_ n2_; (try clear hb); (try clear hb2); (try clear hk); (try clear hi); (try clear ho0)) | ((with_reducible refine gate_builtin (b := .append) (xs := #[.tmp 71, .tmp 79]) rfl ?_); at_builtin; refine Kd.R_append Kd.string (w0 := w) w.heap.size rfl (.tmp 71) (.tmp 79) 39 9 (.string ⟨#[]⟩) 16 rfl Tryd.underlying39 info9 rfl (by decide) (by omega) (.slice Ao33 x13_2.length co33) x13_2 ((x8_2.extract 1 x8_2.size).extract 0 ((ji23) : Int).toNat) [.string ((x8_2.extract 1 x8_2.size).extract 0 ((ji23) : Int).toNat)] (fun k_ => some k_ ≠ (v120 : Value).ownBlock) (fun _ => False) rfl rfl ?aP (fun _ hk => hk.elim) ?aF ?aO ?aB ?aS ?aL ?_; (case aP => exact rfl); (case aB => exact hB_); (case aF => exact (fun k_ hk => Kd.fresh' (Kd.R_lt (hR_ HO121.out)) k_ hk)); (case aO => exact (by (with_reducible repeat (first | apply Kd.R_alloc | apply Kd.R_drewN | apply Kd.R_drew)); exact Kd.R_mono HO_13.out (fun _ hk => hk.2))); (case aS => exact hS_); (case aL => have := LMc26.out; omega); intro v123 w35 ho hb hg hat; rw [← Ny122.out] at ho; have n0_ := Aside0.mk (Kd.R_after (ok := (fun _ => True)) (hR_ HO121.out) hg hat); have n1_ := Aside0.mk (hb); have n2_ := Aside0.mk (ho); clear HO121; clear HB; clear HO_13; have HO121 := n0_; have HB := n1_; have HO124 := n2_; clear n0_ n1_ n2_; clear ho hb hg hat) | ((with_reducible refine gate_callee (f := 68) rfl ?_); refine goesL_ (some 83) rfl rfl Tryd.func68 (by kernel_rfl) rfl #[.string t118, .string (⟨#[32]⟩ : ByteArray)] rfl hL_ ?_; (with_reducible refine (strings_HasPrefix.calls t118 (⟨#[32]⟩ : ByteArray) false _ A27.out).mono ?_); rintro e w' ⟨rfl, ⟨nd, rfl⟩⟩; refine ⟨_, rfl, ?_⟩) | ((with_reducible refine gate_callee (f := 69) rfl ?_); refine goesL_ (some 87) rfl rfl Tryd.func69 (by kernel_rfl) rfl #[.string t118, .string (⟨#[41]⟩ : ByteArray)] rfl hL_ ?_; (with_reducible refine (strings_CutPrefix.calls t118 (⟨#[41]⟩ : ByteArray) t126 t127 _ A32.out).mono ?_); rintro e w' ⟨rfl, ⟨nd, rfl⟩⟩; refine ⟨_, rfl, ?_⟩))
                                refine bodyPost_ret (results_list (rs := [.tmp 2, .tmp 3, .tmp 4, .tmp 5, .tmp 6]) rfl (by simp) (.tmp (.tmp (.tmp (.tmp (.tmp .nil)))))) rfl ?_
                                exact ⟨_, by first | rfl | (simp [errW_none, errW_some] <;> rfl) | (simp only [← hji23]; first | rfl | (simp [errW_none, errW_some] <;> rfl)) | (simp [*, errW_none, errW_some] <;> rfl), by (with_reducible repeat (first | apply Kd.R_alloc | apply Kd.R_drewN | apply Kd.R_drew)); exact Kd.R_mono HO124.out (fun _ hk => trivial), by repeat (first | (with_reducible first | exact HB.out | apply below_alloc | apply pw_below_drewN | apply below_drew1) | exact HB.out)⟩
                            · rw [if_neg c26] at H
                              exact absurd H (by simp)
                          · rw [if_neg c25] at H
                            exact absurd H (by simp)
                        · rw [if_neg c24] at H
                          exact absurd H (by simp)
                      · replace c22 := Bool.eq_false_iff.mpr c22
                        subst c22
                        have H1 : (some (0, 0, ([] : List ByteArray), (⟨#[]⟩ : ByteArray), false)) = some (r1, r2, r3, r4, r5) := by rw [if_neg (show ¬ (false = true) by decide)] at H; exact H
                        clear H
                        have H := H1
                        clear H1
                        simp only [Option.some.injEq, Prod.mk.injEq] at H
                        obtain ⟨rfl, rfl, rfl, rfl, rfl⟩ := H
                        obtain ⟨Ao36, co36, eo36⟩ := Kd.R_slice HO_13.out
                        subst eo36
                        go_wp2_with (first | ((with_reducible refine gate_callee (f := 63) rfl ?_); refine goesL_ (some 63) rfl rfl Tryd.func63 (by kernel_rfl) rfl #[.string (x8_2.extract 1 x8_2.size)] rfl hL_ ?_; (with_reducible refine (ih k2 (by have := HJ11.out; have := HK2.out; omega) (x8_2.extract 1 x8_2.size) t115 t116 t117 t118 false _ A21.out hG_).mono ?_); rintro e w37 ⟨v120, rfl, ho0, hb⟩; refine ⟨_, rfl, ?_⟩; have n0_ := Aside0.mk (Kd.R_elder' (hR_ HO_13.out) (Kd.R_base ho0) hb); have n1_ := Aside0.mk (Kd.R_lower (Kd.R_new' ho0 (Kd.R_lt (hR_ HO_13.out))) hS_); have n2_ := Aside0.mk (below_step hB_ hb); clear HO_13; clear HB; have HO_13 := n0_; have HO121 := n1_; have HB := n2_; clear n0_ n1_ n2_; (try clear hb); (try clear hb2); (try clear hk); (try clear hi); (try clear ho0)))
                        refine bodyPost_ret (results_list (rs := [.tmp 2, .tmp 3, .tmp 4, .tmp 5, .tmp 6]) rfl (by simp) (.tmp (.tmp (.tmp (.tmp (.tmp .nil)))))) rfl ?_
                        exact ⟨_, by first | rfl | (simp [errW_none, errW_some] <;> rfl) | (simp [*, errW_none, errW_some] <;> rfl), by first | exact Kd.R_nil _ _ _ _ _ | exact Kd.N_nil _ _ _ _ _ | exact Kd.V_nil _ _ _ _ _ | exact Kd.Q_nil _ _ _ _ _ | exact Kd.S_nil _ _ _ _ _, by repeat (first | (with_reducible first | exact HB.out | apply below_alloc | apply pw_below_drewN | apply below_drew1) | exact HB.out)⟩
                    · rw [if_neg c20] at H
                      exact absurd H (by simp)
                  · rw [if_neg c19] at H
                    have c19b0 : decide ((x13_2.length : Int) < 3) = false := decide_eq_false c19
                    have c19b1 : decide (x13_2.length < 3) = false := decide_eq_false (by omega)
                    clear c19
                    replace H := Option.bind_eq_some_iff.mp H
                    obtain ⟨⟨t113, t114⟩, A380, H⟩ := H
                    replace H : (some (2, t110, x13_2, t113, t114)) = some (r1, r2, r3, r4, r5) := H
                    have A38 := Aside0.mk A380
                    clear A380
                    simp only [Option.some.injEq, Prod.mk.injEq] at H
                    obtain ⟨rfl, rfl, rfl, rfl, rfl⟩ := H
                    obtain ⟨Ao39, co39, eo39⟩ := Kd.R_slice HO_13.out
                    subst eo39
                    go_wp2_with (first | ((with_reducible refine gate_callee (f := 69) rfl ?_); refine goesL_ (some 87) rfl rfl Tryd.func69 (by kernel_rfl) rfl #[.string x8_2, .string (⟨#[41]⟩ : ByteArray)] rfl hL_ ?_; (with_reducible refine (strings_CutPrefix.calls x8_2 (⟨#[41]⟩ : ByteArray) t113 t114 _ A38.out).mono ?_); rintro e w' ⟨rfl, ⟨nd, rfl⟩⟩; refine ⟨_, rfl, ?_⟩))
                    refine bodyPost_ret (results_list (rs := [.tmp 2, .tmp 3, .tmp 4, .tmp 5, .tmp 6]) rfl (by simp) (.tmp (.tmp (.tmp (.tmp (.tmp .nil)))))) rfl ?_
                    exact ⟨_, by first | rfl | (simp [errW_none, errW_some] <;> rfl) | (simp [*, errW_none, errW_some] <;> rfl), by (with_reducible repeat (first | apply Kd.R_alloc | apply Kd.R_drewN | apply Kd.R_drew)); exact HO_13.out, by repeat (first | (with_reducible first | exact HB.out | apply below_alloc | apply pw_below_drewN | apply below_drew1) | exact HB.out)⟩

end Go.Proofs.YtpbobdgenjhjoaaDoor.G
end
