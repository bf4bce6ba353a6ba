/- Parts of this proof, one behind the other: G26, G27, G28, TNodes, TBits, TopVals, HalfVals, HalfMore, TreeMath, TSizes, NextRef, TSess, NextVals, G2, G1, G29, NextWake. -/
import Derived.Test.YtgokcaccamfgfaaDoorU2
import Derived.Test.YtgokcaccamfgfaaDoorG0
import Derived.Test.YtgokcaccamfgfaaDoorU6
import Derived.Test.YtgokcaccamfgfaaDoorU5
section
-- Laid by the session's own driver gp.py over the kit's printer. Not trusted: Lean checks it.
namespace Go.Proofs.YtgokcaccamfgfaaDoor.G
open Go.RowKit Go.Proofs.YtgokcaccamfgfaaDoorW.PrintWords Go.Proofs.YtgokcaccamfgfaaDoorW.PrintLast Go.Proofs.YtgokcaccamfgfaaDoorW.PrintMore
set_option maxHeartbeats 8000000
set_option maxRecDepth 100000
attribute [local go_sem] max2_int min2_int max_two min_two max_three min_three max_four min_four   -- for this text's walks alone
set_option linter.unusedVariables false
set_option linter.unusedSimpArgs false

def openB (d : List Bool) (ms : List Int) (i : Int) : Bool := rdOf false d i && (rd ms i == 0)
def oneB (d : List Bool) (ms : List Int) (i : Int) : Int := if openB d ms i = true then 1 else 0
def szH (ns : List S33) (d : List Bool) (ms : List Int) : List Int := sizesP ns (oneB d ms)
def offW (x m : Int) : Int := mx (wrap64 (wrap64 (2 * x) - m)) (wrap64 (m - wrap64 (2 * x)))
theorem off_calls (x m : Int) (W : World) : Calls Tryd.prog 47 #[.int .i64 x, .int .i64 m] W fun e W' => e = .returned (.int .i64 (offW x m)) ∧ W' = W := by
 unfold offW mx
 by_cases c : wrap64 (wrap64 (2 * x) - m) < wrap64 (m - wrap64 (2 * x))
 case pos =>
  rw [if_pos c]
  go_enter Tryd.func47, Tryd.ntmps47
  go_wp2
  go_ret
  exact ⟨rfl, rfl⟩
 rw [if_neg c]
 go_enter Tryd.func47, Tryd.ntmps47
 go_wp2
 go_ret
 exact ⟨rfl, rfl⟩
def bestH (sz : List Int) (d : List Bool) (ms : List Int) (m : Int) : Nat → Int
 | 0 => -1
 | n + 1 => if openB d ms (n : Int) = true ∧ (bestH sz d ms m n < 0 ∨ offW (rd sz (n : Int)) m < offW (rd sz (bestH sz d ms m n)) m) then (n : Int) else bestH sz d ms m n
theorem bestH_range (sz : List Int) (d : List Bool) (ms : List Int) (m : Int) : ∀ n : Nat, -1 ≤ bestH sz d ms m n ∧ bestH sz d ms m n < (n : Int)
 | 0 => ⟨Int.le_refl _, by show (-1 : Int) < 0; omega⟩
 | n + 1 => by
  have := bestH_range sz d ms m n
  rw [bestH]
  split <;> omega
def parB (ns : List S33) : Bool := (List.range ns.length).all fun i => decide ((0 ≤ (rd_T33 ns (i : Int)).f1 ∧ (rd_T33 ns (i : Int)).f1 < (i : Int)) ∨ ((i : Int) = 0 ∧ (rd_T33 ns (i : Int)).f1 = -1))
theorem parB_at {ns : List S33} (h : parB ns = true) (i : Int) (h0 : 0 ≤ i) (h1 : i < (ns.length : Int)) : ((0 ≤ (rd_T33 ns i).f1 ∧ (rd_T33 ns i).f1 < i) ∨ (i = 0 ∧ (rd_T33 ns i).f1 = -1)) := by
 have := of_decide_eq_true (List.all_eq_true.1 h i.toNat (List.mem_range.2 (by omega)))
 rw [show ((i.toNat : Nat) : Int) = i by omega] at this
 exact this
def half_Ask.f (k : Nat) (l0 : List S33) (l1 : List Int) : Option (Int × Int) :=
 if 0 < l0.length ∧ l0.length ≤ 512 ∧ l1.length = l0.length ∧ parB l0 = true then
  (if rd l1 0 = 2 then (half_last.f k l1).bind fun w => (half_doubts.f k l0 l1 w).bind fun d =>
   if 0 ≤ w ∧ w < (l0.length : Int) ∧ d.length = l0.length then
    (if bestH (szH l0 d l1) d l1 (rd (szH l0 d l1) w) l0.length < 0 then top_Bug.f l0 l1 w else some (0, bestH (szH l0 d l1) d l1 (rd (szH l0 d l1) w) l0.length)) else none
  else top_Ask.f k l0 l1) else none
theorem half_Ask.mono : ∀ a0 a1 k, LeO (half_Ask.f k a0 a1) (half_Ask.f (k + 1) a0 a1) := by
 intro a0 a1 k
 unfold half_Ask.f
 refine LeO.ite (LeO.ite (LeO.bind (half_last.mono _ _) (fun _ => LeO.bind (half_doubts.mono _ _ _ _) (fun _ => LeO.refl _))) (top_Ask.mono _ _ _)) (LeO.none _)
theorem open_calls (W : World) (Bd Bm : Nat) (d : List Bool) (ms : List Int) (Ad : Option Addr) (cd : Nat) (A1 : Option Addr) (c1 : Nat) (hd : W.cell? ⟨Bd, 0, none⟩ = some (.slice Ad d.length cd)) (hm : W.cell? ⟨Bm, 0, none⟩ = some (.slice A1 ms.length c1))
 (hD : Kd.C Kd.bool W Ad d.length d) (hM : Kd.C (Kd.int .i64) W A1 ms.length ms) (i : Int) (h0 : 0 ≤ i) (h1 : i < (d.length : Int)) (h2 : i < (ms.length : Int)) :
 Calls Tryd.prog 44 #[.int .i64 i, .pointer (some ⟨Bd, 0, none⟩), .pointer (some ⟨Bm, 0, none⟩)] W fun e W' => e = .returned (.bool (openB d ms i)) ∧ W' = W := by
 obtain ⟨ad, e0, g0⟩ := Kd.at_bool hD i h0 h1
 cases e0
 obtain ⟨am, e1, g1⟩ := Kd.at_int hM i h0 h2
 cases e1
 unfold openB
 clear hD hM
 replace h0 := eq_true h0
 replace h1 := eq_true h1
 replace h2 := eq_true h2
 cases hb : rdOf false d i with
 | true =>
  rw [hb] at g0
  rw [Bool.true_and]
  go_enter Tryd.func44, Tryd.ntmps44
  go_wp2
  go_ret
  exact ⟨rfl, rfl⟩
 | false =>
  rw [hb] at g0
  rw [Bool.false_and]
  go_enter Tryd.func44, Tryd.ntmps44
  go_wp2
  go_ret
  exact ⟨rfl, rfl⟩
theorem one_calls (W : World) (Bf Bd Bm : Nat) (d : List Bool) (ms : List Int) (Ad : Option Addr) (cd : Nat) (A1 : Option Addr) (c1 : Nat) (hf : W.cell? ⟨Bf, 0, none⟩ = some (.func (.func 44) #[] #[.pointer (some ⟨Bd, 0, none⟩), .pointer (some ⟨Bm, 0, none⟩)])) (hd : W.cell? ⟨Bd, 0, none⟩ = some (.slice Ad d.length cd)) (hm : W.cell? ⟨Bm, 0, none⟩ = some (.slice A1 ms.length c1))
 (hD : Kd.C Kd.bool W Ad d.length d) (hM : Kd.C (Kd.int .i64) W A1 ms.length ms) (i : Int) (h0 : 0 ≤ i) (h1 : i < (d.length : Int)) (h2 : i < (ms.length : Int)) :
 Calls Tryd.prog 46 #[.int .i64 i, .pointer (some ⟨Bf, 0, none⟩)] W fun e W' => e = .returned (.int .i64 (oneB d ms i)) ∧ ∃ m, W' = W.drewN m := by
 have h : Calls Tryd.prog 46 #[.int .i64 i, .pointer (some ⟨Bf, 0, none⟩)] W fun e W' => e = .returned (.int .i64 (oneB d ms i)) ∧ W' = W := by
  have HO := a_ (open_calls W Bd Bm d ms Ad cd A1 c1 hd hm hD hM i h0 h1 h2)
  clear hd hm hD hM
  unfold oneB
  cases ho : openB d ms i with
  | true =>
   rw [ho] at HO
   rw [if_pos rfl]
   go_enter Tryd.func46, Tryd.ntmps46
   go_wp2_with (first
    | (go_at_call 44; refine HO.out.mono ?_; rintro e w5 ⟨rfl, rfl⟩))
   go_ret
   exact ⟨rfl, rfl⟩
  | false =>
   rw [ho] at HO
   rw [if_neg Bool.false_ne_true]
   go_enter Tryd.func46, Tryd.ntmps46
   go_wp2_with (first
    | (go_at_call 44; refine HO.out.mono ?_; rintro e w5 ⟨rfl, rfl⟩))
   go_ret
   exact ⟨rfl, rfl⟩
 exact h.mono fun e W' ⟨h1, h2⟩ => ⟨h1, 0, h2⟩
def Half8 (w : World) (am : Addr) (c1 : Nat) (l1 : List Int) (Ad : Option Addr) (cd : Nat) (d : List Bool) (Bd Bf : Nat) (w8 : World) : Prop :=
 (Below w.heap.size w w8 ∧ Boxed w8 w.heap.size 34 (.slice (some am) l1.length c1) ∧ Boxed2 w8 (w.heap.size + 1) 39 (.int .i64 0) (.int .i64 0)) ∧
 (Boxed w8 Bd 75 (.slice Ad d.length cd) ∧ Boxed w8 Bf 53 (.func (.func 44) #[] #[.pointer (some ⟨Bd, 0, none⟩), .pointer (some ⟨w.heap.size, 0, none⟩)])) ∧ Kd.C Kd.bool w8 Ad d.length d ∧ Kd.C (Kd.int .i64) w8 (some am) l1.length l1
theorem half_sizes (n : Nat) (hn : 2 ≤ n) (w W2 w6 W6a W7 : World) (nd : Nat) (A0 : Option Addr) (c0 : Nat) (l0 : List (S33)) (am : Addr) (c1 : Nat) (l1 : List Int) (Ad : Option Addr) (cd : Nat) (d : List Bool)
 (hr0 : Kd.C k33 w A0 l0.length l0) (hr1 : Kd.C (Kd.int .i64) w (some am) l1.length l1) (h512 : l0.length ≤ 512) (hp : parB l0 = true) (hl : l1.length = l0.length) (hdl : d.length = l0.length)
 (h2 : Below w.heap.size w W2 ∧ Boxed W2 w.heap.size 34 (.slice (some am) l1.length c1) ∧ Boxed2 W2 (w.heap.size + 1) 39 (.int .i64 0) (.int .i64 0))
 (hR6 : Kd.R Kd.bool 4 w6 (W2.drewN nd).heap.size (fun _ => True) (.slice Ad d.length cd) d) (hb6 : Below (W2.drewN nd).heap.size (W2.drewN nd) w6)
 (h6a : (w6.alloc (.cells #[.slice none 0 0] 75)).setCell ⟨w6.heap.size, 0, none⟩ (.slice Ad d.length cd) = W6a)
 (h7 : W6a.alloc (.cells #[.func (.func 44) #[] #[.pointer (some ⟨w6.heap.size, 0, none⟩), .pointer (some ⟨w.heap.size, 0, none⟩)]] 53) = W7) :
 CallsIn Fence.wide n Tryd.prog 45 #[.slice A0 l0.length c0, .func (.func 46) #[] #[.pointer (some ⟨W6a.heap.size, 0, none⟩)]] W7 fun e w8 =>
  ∃ Az cz, e = .returned (.slice Az l0.length cz) ∧ Kd.C (Kd.int .i64) w8 Az l0.length (szH l0 d l1) ∧ Half8 w am c1 l1 Ad cd d w6.heap.size W6a.heap.size w8 := by
 have sz : ∀ (W : World) (p : Addr) (v : Value), (W.setCell p v).heap.size = W.heap.size := fun W p v => by show (W.heap.modify _ _).size = _; rw [Array.size_modify]
 have e6 : W6a.heap.size = w6.heap.size + 1 := by rw [← h6a, sz]; simp
 have e7 : W7.heap.size = w6.heap.size + 2 := by rw [← h7, World.size_alloc, e6]
 have s2 := h2.2.2.lt
 have s6 : W2.heap.size ≤ w6.heap.size := hb6.size
 have B6a : Below w6.heap.size w6 W6a := by rw [← h6a]; exact ((Below.refl _ w6).alloc (Nat.le_refl _) _).setCell (p := ⟨w6.heap.size, 0, none⟩) (Nat.le_refl _) _
 have B7 : Below w6.heap.size w6 W7 := by rw [← h7]; exact B6a.alloc (by omega) _
 have bd6 : Boxed W6a w6.heap.size 75 (.slice Ad d.length cd) := by rw [← h6a]; exact (Boxed.new w6 _ _).set _
 have bd : Boxed W7 w6.heap.size 75 (.slice Ad d.length cd) := by rw [← h7]; exact bd6.alloc _
 have bf : Boxed W7 W6a.heap.size 53 (.func (.func 44) #[] #[.pointer (some ⟨w6.heap.size, 0, none⟩), .pointer (some ⟨w.heap.size, 0, none⟩)]) := by rw [← h7]; exact Boxed.new W6a _ _
 have hB6 : Below w.heap.size w w6 := (below_dn h2.1 nd).trans (hb6.mono h2.1.size)
 have hB7 : Below w.heap.size w W7 := hB6.trans (B7.mono hB6.size)
 have m6 : Boxed w6 w.heap.size 34 (.slice (some am) l1.length c1) := (hb6.block _ (by show w.heap.size < W2.heap.size; omega)).trans h2.2.1
 have r6 : Boxed2 w6 (w.heap.size + 1) 39 (.int .i64 0) (.int .i64 0) := (hb6.block _ (by show w.heap.size + 1 < W2.heap.size; omega)).trans h2.2.2
 have m7 : Boxed W7 w.heap.size 34 (.slice (some am) l1.length c1) := (B7.block _ (by omega)).trans m6
 have r7 : Boxed2 W7 (w.heap.size + 1) 39 (.int .i64 0) (.int .i64 0) := (B7.block _ (by omega)).trans r6
 have d7 : Kd.C Kd.bool W7 Ad d.length d := Kd.C_below (Kd.R_reads' hR6).2.2 B7
 have c7 : Kd.C (Kd.int .i64) W7 (some am) l1.length l1 := Kd.C_below hr1 hB7
 refine (tree_Sizes.in_ n hn 46 #[.pointer (some ⟨W6a.heap.size, 0, none⟩)] (enters_of Tryd.func46 (by kernel_rfl) rfl) (oneB d l1) A0 c0 l0 h512 (parB_at hp) W7 (Kd.C_below hr0 hB7)
  (fun i W h0 h1 hb => one_calls W W6a.heap.size w6.heap.size w.heap.size d l1 Ad cd (some am) c1 (Boxed.cell (show Boxed W W6a.heap.size _ _ from (hb.block _ (by omega)).trans bf)) (Boxed.cell (show Boxed W w6.heap.size _ _ from (hb.block _ (by omega)).trans bd)) (Boxed.cell (show Boxed W w.heap.size _ _ from (hb.block _ (by omega)).trans m7)) (Kd.C_below d7 hb) (Kd.C_below c7 hb) i h0 (by omega) (by omega))).mono ?_
 rintro e w8 ⟨v, rfl, hr, hb⟩
 obtain ⟨Az, cz, rfl, hlz, hC⟩ := Kd.R_reads hr
 have hlen : (szH l0 d l1).length = l0.length := by show (sizesP l0 (oneB d l1)).length = _; unfold sizesP; rw [sizesL_len, List.length_replicate]
 have hC' : Kd.C (Kd.int .i64) w8 Az (szH l0 d l1).length (szH l0 d l1) := hC
 rw [hlen] at hC'
 have e9 : (sizesP l0 (oneB d l1)).length = l0.length := hlen
 refine ⟨Az, cz, by rw [e9], hC', ⟨hB7.trans (hb.mono hB7.size), (hb.block _ (by omega)).trans m7, (hb.block _ (by omega)).trans r7⟩, ⟨(hb.block _ (by omega)).trans bd, (hb.block _ (by omega)).trans bf⟩, Kd.C_below d7 hb, Kd.C_below c7 hb⟩
theorem run_store_func (P : Program) (w : World) (a : Addr) (m : Mode) (f : Fn) (x y : Array Value) : (store a (.func f x y) m).run P w = stored P w a (.func f x y) m := run_store P w a _ m rfl
section
attribute [local go_sem] Oper.semAt_some run_store_func
theorem half_Ask.inW (n : Nat) (hn : 4 ≤ n) (k : Nat) (A0 : Option Addr) (c0 : Nat) (l0 : List (S33)) (A1 : Option Addr) (c1 : Nat) (l1 : List Int) (wg : Int) (d : List Bool) (r1 r2 : Int) (w : World) (hr0 : Kd.C k33 w A0 l0.length l0) (hc0 : l0.length ≤ c0) (hr1 : Kd.C (Kd.int .i64) w A1 l1.length l1) (hc1 : l1.length ≤ c1)
 (h0 : rd l1 0 = 2) (hn0 : 0 < l0.length) (h512 : l0.length ≤ 512) (hl : l1.length = l0.length) (hp : parB l0 = true) (hL : half_last.f k l1 = some wg) (hD : half_doubts.f k l0 l1 wg = some d) (hw0 : 0 ≤ wg) (hw1 : wg < (l0.length : Int)) (hdl : d.length = l0.length)
 (hr : (if bestH (szH l0 d l1) d l1 (rd (szH l0 d l1) wg) l0.length < 0 then top_Bug.f l0 l1 wg else some (0, bestH (szH l0 d l1) d l1 (rd (szH l0 d l1) wg) l0.length)) = some (r1, r2)) :
 CallsIn Fence.wide n Tryd.prog 28 #[.slice A0 l0.length c0, .slice A1 l1.length c1] w fun e w' => e = .returned (.agg #[.int .i64 r1, .int .i64 r2]) ∧ Below w.heap.size w w' := by
 have hn1 : 1 ≤ n := by omega
 obtain ⟨am, e, g⟩ := Kd.at_int hr1 0 (by omega) (by omega)
 cases e
 have HR0 := a_ hr0
 have HC0 := a_ hc0
 have HR1 := a_ hr1
 have HC1 := a_ hc1
 have HL := a_ hL
 have HD := a_ hD
 have HRR := a_ hr
 have HM := a_ (And.intro hw0 (And.intro hw1 (And.intro hl (And.intro h512 (And.intro hdl (And.intro hn0 hp))))))
 have hmix : Tryd.prog.follows .mixedOrders = true := by kernel_rfl
 have hu := Tryd.underlying39
 have hB2 : Below w.heap.size w ((w.alloc (.cells #[.slice (some am) l1.length c1] 34)).alloc (.cells #[.int .i64 0, .int .i64 0] 39)) := ((Below.refl _ w).alloc (Nat.le_refl _) _).alloc (by simp) _
 have bx0 := ((Boxed.new w 34 (.slice (some am) l1.length c1)).alloc (.cells #[.int .i64 0, .int .i64 0] 39))
 have bx1 := Boxed2.new (w.alloc (.cells #[.slice (some am) l1.length c1] 34)) 39 (.int .i64 0) (.int .i64 0)
 simp only [World.size_alloc] at bx1
 have g1 := (hB2.cell (World.block_lt_of_cell? w _ g)).trans g
 rw [h0] at g1
 have cb := bx0.cell
 have HB2 := a_ (And.intro hB2 (And.intro bx0 bx1))
 have hpos : ((0 : Int) < (l1.length : Int)) = True := eq_true (by omega)
 have hposn : (0 < l1.length) = True := eq_true (by omega)
 clear hr0 hc0 hr1 hc1 hL hD hr hw0 hw1 hl h512 hdl hn0 hp g h0 bx0 bx1 hB2
 obtain ⟨W2, hW2⟩ : ∃ W2, (w.alloc (.cells #[.slice (some am) l1.length c1] 34)).alloc (.cells #[.int .i64 0, .int .i64 0] 39) = W2 := ⟨_, rfl⟩
 rw [hW2] at g1 cb HB2
 rw [show am.add (Int.toNat 0) = am from by cases am; rfl] at g1
 refine callsIn_of_wp Tryd.func28 rfl trivial ?_ rfl
 simp only [Tryd.ntmps28, List.size_toArray, List.length_cons, List.length_nil, Nat.reduceAdd, Nat.reduceSub, Array.replicate_succ, Array.replicate_zero, List.push_toArray, List.append_toArray, List.nil_append, List.cons_append]
 have ff1 : Fence.wide.fn 42 := trivial
 have ff2 : Fence.wide.fn 43 := trivial
 have ff3 : Fence.wide.fn 45 := trivial
 have ff4 : Fence.wide.fn 44 := trivial
 have ff5 : Fence.wide.fn 47 := trivial
 have ff6 : Fence.wide.fn 48 := trivial
 have ls2 : w.heap.size + 1 < W2.heap.size := HB2.out.2.2.lt
 have LS2 := a_ ls2
 clear ls2
 gi_wp2_with (first
  | (gi_at_call 42; refine ((callsIn_wide (n := n - 1)).2 (half_last.calls k _ _ l1 wg _ (Kd.C_below HR1.out HB2.out.1) HC1.out HL.out)).mono ?_; rintro e w5 ⟨rfl, ⟨nd, rfl⟩⟩; have cb5 : (W2.drewN nd).cell? ⟨w.heap.size, 0, none⟩ = some (.slice (some am) l1.length c1) := HB2.out.2.1.cell)
  | (gi_at_call 43; refine ((callsIn_wide (n := n - 1)).2 (half_doubts.calls k _ _ l0 _ _ l1 wg d _ (Kd.C_below HR0.out (below_dn HB2.out.1 _)) HC0.out (Kd.C_below HR1.out (below_dn HB2.out.1 _)) HC1.out HD.out)).mono ?_; rintro e w6 ⟨v6, rfl, hR6, hb6⟩; obtain ⟨Ad, cd, e6⟩ := Kd.R_slice hR6; subst e6; have cb6 : w6.cell? ⟨w.heap.size, 0, none⟩ = some (.slice (some am) l1.length c1) := (hb6.cell (p := ⟨w.heap.size, 0, none⟩) (Nat.lt_of_succ_lt LS2.out)).trans HB2.out.2.1.cell; have HX6 := a_ (And.intro hR6 hb6); clear hR6 hb6; obtain ⟨W6a, hW6a⟩ : ∃ W6a, (w6.alloc (.cells #[.slice none 0 0] 75)).setCell ⟨w6.heap.size, 0, none⟩ (.slice Ad d.length cd) = W6a := ⟨_, rfl⟩)
  | (gi_at_call 45; generalize hW7 : World.alloc _ _ = W7; refine (half_sizes (n - 1) (by omega) w W2 w6 W6a W7 _ A0 c0 l0 am c1 l1 Ad cd d HR0.out HR1.out HM.out.2.2.2.1 HM.out.2.2.2.2.2.2 HM.out.2.2.1 HM.out.2.2.2.2.1 HB2.out HX6.out.1 HX6.out.2 hW6a hW7).mono ?_; rintro e w8 ⟨Az, cz, rfl, hz8, h8⟩; obtain ⟨az, e8, g8⟩ := Kd.at_int hz8 wg HM.out.1 HM.out.2.1; subst e8; have p8 := eq_true HM.out.1; have q8 := eq_true HM.out.2.1; have HZ := a_ (And.intro hz8 h8); clear hz8 h8 hW7 hW6a cb cb5 cb6 g1 hpos hposn hW2))
 clear g8 p8 q8
 obtain ⟨sz, hsz⟩ : ∃ sz, szH l0 d l1 = sz := ⟨_, rfl⟩
 rw [hsz] at HZ HRR
 simp only [hsz]
 obtain ⟨m, hm⟩ : ∃ m, rd sz wg = m := ⟨_, rfl⟩
 rw [hm] at HRR
 simp only [hm]
 gi_loopw [10, 36] (fun v10 v36 wr => ∃ b x : Int, v10 = .int .i64 b ∧ v36 = .int .i64 x ∧ Aside0 (0 ≤ x ∧ x ≤ (l0.length : Int)) ∧ Aside0 (b = bestH sz d l1 m x.toNat ∧ ∃ q, wr = w8.drewN q))
  (fun _ v _ => l0.length - (intOf v).toNat)
 case atStart => exact ⟨-1, 0, by first | rfl | (congr 1; omega), by first | rfl | (congr 1; omega), ⟨by omega, by omega⟩, ⟨rfl, 0, rfl⟩⟩
 case round =>
  obtain ⟨b, x, rfl, rfl, HX, HBq⟩ := hrel
  obtain ⟨hb, q, hq⟩ := HBq.out
  have hbr := bestH_range sz d l1 m x.toNat
  rw [← hb] at hbr
  obtain ⟨⟨hB8, bm8, br8⟩, ⟨bd8, bf8⟩, hd8, hc8⟩ := HZ.out.2
  have hz8 := HZ.out.1
  by_cases hlt : x < (l0.length : Int)
  case neg =>
   have hltb := decide_eq_false hlt
   have hxl : x.toNat = l0.length := by have := HX.out; omega
   rw [hxl] at hb
   clear hbr
   rw [← hb] at HRR
   have hm' : wr.cell? ⟨w.heap.size, 0, none⟩ = some (.slice (some am) l1.length c1) := by rw [hq]; exact bm8.cell
   have hr' : Boxed2 wr (w.heap.size + 1) 39 (.int .i64 0) (.int .i64 0) := by rw [hq]; exact br8
   have hB' : Below w.heap.size w wr := by rw [hq]; exact below_dn hB8 q
   have HE := a_ (And.intro hr' hB')
   clear hlt hq hz8 hB8 bm8 br8 bd8 bf8 hd8 hc8 hxl
   have f0_ := hr'.f0
   have f1_ := hr'.f1
   have c0_ := hr'.c0
   have c1_ := hr'.c1
   clear hr' hB'
   by_cases hb0 : b < 0
   case neg =>
    have hrr := HRR.out
    rw [if_neg hb0] at hrr
    clear hb HBq
    obtain ⟨e1_, e2_⟩ := Prod.mk.inj (Option.some.inj hrr)
    subst e1_
    subst e2_
    have hb0b := decide_eq_false hb0
    clear hb0 hrr HRR
    gi_wp2
    refine bodyPost_ret (results_cell_row rfl _ _ (w.heap.size + 1) 39 #[.int .i64 0, .int .i64 b] (0, 0) _ rfl (HE.out.1.put _ _) Tryd.underlying39 rfl (by kernel_rfl)) rfl ⟨rfl, ?_⟩
    exact (HE.out.2.setCell (p := ⟨w.heap.size + 1, 0, none⟩) (Nat.le_succ _) _).setCell (p := ⟨w.heap.size + 1, 1, none⟩) (Nat.le_succ _) _
   have hb0b := decide_eq_true hb0
   have hrr := HRR.out
   rw [if_pos hb0] at hrr
   have HB0 := a_ hrr
   clear hb0 hrr hb
   gi_wp2_with (first
    | (gi_at_call 48; refine ((callsIn_wide (n := n - 1)).2 (top_Bug.calls _ _ l0 _ _ l1 wg r1 r2 _ (Kd.C_below HR0.out HE.out.2) HC0.out (Kd.C_below HR1.out HE.out.2) HC1.out HB0.out)).mono ?_; rintro e w9 ⟨rfl, hb9⟩; have hr9 : Boxed2 w9 (w.heap.size + 1) 39 (.int .i64 0) (.int .i64 0) := (hb9.block _ HE.out.1.lt).trans HE.out.1; have HE9 := a_ (And.intro hr9 (HE.out.2.trans (hb9.mono HE.out.2.size))); have f90 := hr9.f0; have f91 := hr9.f1; have c90 := hr9.c0; have c91 := hr9.c1; clear hr9 hb9))
   refine bodyPost_ret (results_cell_row rfl _ _ (w.heap.size + 1) 39 #[.int .i64 r1, .int .i64 r2] (0, 0) _ rfl (HE9.out.1.put _ _) Tryd.underlying39 rfl (by kernel_rfl)) rfl ⟨rfl, ?_⟩
   exact (HE9.out.2.setCell (p := ⟨w.heap.size + 1, 0, none⟩) (Nat.le_succ _) _).setCell (p := ⟨w.heap.size + 1, 1, none⟩) (Nat.le_succ _) _
  have hltb := decide_eq_true hlt
  have hx0 : 0 ≤ x := HX.out.1
  obtain ⟨az', e9, g9⟩ := Kd.at_int hz8 x hx0 hlt
  cases e9
  have g9' : wr.cell? (az.add x.toNat) = some (.int .i64 (rd sz x)) := by rw [hq]; exact g9
  have cf : wr.cell? ⟨W6a.heap.size, 0, none⟩ = some (.func (.func 44) #[] #[.pointer (some ⟨w6.heap.size, 0, none⟩), .pointer (some ⟨w.heap.size, 0, none⟩)]) := by rw [hq]; exact bf8.cell
  have HQ := a_ (fun k => (open_calls (wr.drewN k) w6.heap.size w.heap.size d l1 Ad cd (some am) c1 (by rw [hq]; exact bd8.cell) (by rw [hq]; exact bm8.cell) (by rw [hq]; exact hd8) (by rw [hq]; exact hc8) x hx0 (by have := HM.out.2.2.2.2.1; omega) (by have := HM.out.2.2.1; omega)).mono (R' := fun e W' => e = .returned (.bool (openB d l1 x)) ∧ ∃ m, W' = (wr.drewN k).drewN m) (fun e W' ⟨h1, h2⟩ => ⟨h1, 0, h2⟩))
  have HF := a_ (fun (y : Int) k => (off_calls y m (wr.drewN k)).mono (R' := fun e W' => e = .returned (.int .i64 (offW y m)) ∧ ∃ q, W' = (wr.drewN k).drewN q) (fun e W' ⟨h1, h2⟩ => ⟨h1, 0, h2⟩))
  have HK := a_ (And.intro hb (And.intro hq (And.intro hbr (And.intro hx0 hlt))))
  have hw1 : wrap64 (x + 1) = x + 1 := by have := HM.out.2.2.2.1; unfold wrap64; omega
  have HW := a_ hw1
  have hbx : bestH sz d l1 m (x + 1).toNat = if openB d l1 x = true ∧ (b < 0 ∨ offW (rd sz x) m < offW (rd sz b) m) then x else b := by
   rw [show (x + 1).toNat = x.toNat + 1 by omega, bestH, ← hb, show ((x.toNat : Nat) : Int) = x by omega]
  have HBX := a_ hbx
  have hms : l0.length - (x + 1).toNat < l0.length - x.toNat := by omega
  have HMS := a_ hms
  have hx9 : 0 ≤ x + 1 ∧ x + 1 ≤ (l0.length : Int) := by omega
  have HX9 := a_ hx9
  clear hb hq hbr hw1 hbx hms hx9 hz8 hB8 bm8 br8 bd8 bf8 hd8 hc8 g9
  replace hlt := eq_true hlt
  replace hx0 := eq_true hx0
  cases ho : openB d l1 x with
  | false =>
   rw [ho] at HQ HBX
   clear ho
   gi_wp2
   refine wpIn_region_quiet_lit rfl hmix (by kernel_rfl) ?_
   iterate 2 (quiet_step_in (fail))
   quiet_step_in (exact CallsIn.quiet_of (callsIn_wide.2 (HQ.out _)))
   quiet_step_in (fail)
   iterate 14 (refine BigFrame.wpQuietIn_skip (fun _ _ _ _ => trivial) (by first | rfl | kernel_rfl | simp [Region.wanted, yielded]) ?_; simp only [Act.put, List.setIfInBounds_toArray, List.set_cons_succ, List.set_cons_zero])
   quiet_step_in (fail)
   refine wpQuietIn_nil ?_
   intro _ hw'
   obtain ⟨nq, hw''⟩ := hw'
   subst hw''
   gi_wp2
   rw [HW.out]
   exact ⟨⟨b, x + 1, rfl, rfl, ⟨HX9.out⟩, ⟨by rw [HBX.out]; simp, q + nq, by rw [HK.out.2.1]; exact World.drewN_drewN _ _ _⟩⟩, by simp only [intOf]; exact HMS.out⟩
  | true =>
   rw [ho] at HQ HBX
   clear ho
   by_cases hb0 : b < 0
   case pos =>
    have hb0b := decide_eq_true hb0
    have HB0 := a_ hb0
    clear hb0
    gi_wp2
    refine wpIn_region_quiet_lit rfl hmix (by kernel_rfl) ?_
    iterate 2 (quiet_step_in (fail))
    quiet_step_in (exact CallsIn.quiet_of (callsIn_wide.2 (HQ.out _)))
    iterate 4 (quiet_step_in (fail))
    iterate 10 (refine BigFrame.wpQuietIn_skip (fun _ _ _ _ => trivial) (by first | rfl | kernel_rfl | simp [Region.wanted, yielded]) ?_; simp only [Act.put, List.setIfInBounds_toArray, List.set_cons_succ, List.set_cons_zero])
    iterate 2 (quiet_step_in (fail))
    refine wpQuietIn_nil ?_
    intro _ hw'
    obtain ⟨nq, hw''⟩ := hw'
    subst hw''
    gi_wp2
    rw [HW.out]
    exact ⟨⟨x, x + 1, rfl, rfl, ⟨HX9.out⟩, ⟨by rw [HBX.out]; simp [HB0.out], q + nq, by rw [HK.out.2.1]; exact World.drewN_drewN _ _ _⟩⟩, by simp only [intOf]; exact HMS.out⟩
   have hb0b := decide_eq_false hb0
   have hb1 : 0 ≤ b := by omega
   have hb2 : b < (l0.length : Int) := by have := HK.out.2.2.1.2; have := HX.out; omega
   obtain ⟨az'', e9, g10⟩ := Kd.at_int HZ.out.1 b hb1 hb2
   cases e9
   have g10' : wr.cell? (az.add b.toNat) = some (.int .i64 (rd sz b)) := by rw [HK.out.2.1]; exact g10
   have HB0 := a_ hb0
   clear hb0 g10
   replace hb1 := eq_true hb1
   replace hb2 := eq_true hb2
   obtain ⟨o1, ho1⟩ : ∃ o1, offW (rd sz x) m = o1 := ⟨_, rfl⟩
   obtain ⟨o2, ho2⟩ : ∃ o2, offW (rd sz b) m = o2 := ⟨_, rfl⟩
   have H1 := a_ (fun k => HF.out (rd sz x) k)
   have H2 := a_ (fun k => HF.out (rd sz b) k)
   rw [ho1] at H1 HBX
   rw [ho2] at H2 HBX
   by_cases hoo : o1 < o2
   case pos =>
    have hoob := decide_eq_true hoo
    have HOO := a_ hoo
    clear hoo ho1 ho2
    gi_wp2
    refine wpIn_region_quiet_lit rfl hmix (by kernel_rfl) ?_
    iterate 2 (quiet_step_in (fail))
    quiet_step_in (exact CallsIn.quiet_of (callsIn_wide.2 (HQ.out _)))
    iterate 6 (quiet_step_in (fail))
    quiet_step_in (exact CallsIn.quiet_of (callsIn_wide.2 (H1.out _)))
    iterate 5 (quiet_step_in (fail))
    quiet_step_in (exact CallsIn.quiet_of (callsIn_wide.2 (H2.out _)))
    iterate 3 (quiet_step_in (fail))
    refine wpQuietIn_nil ?_
    intro _ hw'
    obtain ⟨nq, hw''⟩ := hw'
    subst hw''
    gi_wp2
    rw [HW.out]
    exact ⟨⟨x, x + 1, rfl, rfl, ⟨HX9.out⟩, ⟨by rw [HBX.out]; simp [HOO.out], q + nq, by rw [HK.out.2.1]; exact World.drewN_drewN _ _ _⟩⟩, by simp only [intOf]; exact HMS.out⟩
   have hoob := decide_eq_false hoo
   have HOO := a_ hoo
   clear hoo ho1 ho2
   gi_wp2
   refine wpIn_region_quiet_lit rfl hmix (by kernel_rfl) ?_
   iterate 2 (quiet_step_in (fail))
   quiet_step_in (exact CallsIn.quiet_of (callsIn_wide.2 (HQ.out _)))
   iterate 6 (quiet_step_in (fail))
   quiet_step_in (exact CallsIn.quiet_of (callsIn_wide.2 (H1.out _)))
   iterate 5 (quiet_step_in (fail))
   quiet_step_in (exact CallsIn.quiet_of (callsIn_wide.2 (H2.out _)))
   iterate 3 (quiet_step_in (fail))
   refine wpQuietIn_nil ?_
   intro _ hw'
   obtain ⟨nq, hw''⟩ := hw'
   subst hw''
   gi_wp2
   rw [HW.out]
   exact ⟨⟨b, x + 1, rfl, rfl, ⟨HX9.out⟩, ⟨by rw [HBX.out, if_neg (fun h => by have h1 := HB0.out; have h2 := HOO.out; have h3 := h.2; omega)], q + nq, by rw [HK.out.2.1]; exact World.drewN_drewN _ _ _⟩⟩, by simp only [intOf]; exact HMS.out⟩
end
theorem half_Ask.calls (k : Nat) (A0 : Option Addr) (c0 : Nat) (l0 : List (S33)) (A1 : Option Addr) (c1 : Nat) (l1 : List Int) (r1 : Int) (r2 : Int) (w : World) (hr0 : Kd.C k33 w A0 l0.length l0) (hc0 : l0.length ≤ c0) (hr1 : Kd.C (Kd.int .i64) w A1 l1.length l1) (hc1 : l1.length ≤ c1) (h : half_Ask.f k l0 l1 = some (r1, r2)) (hG : GOK w) :
 Calls Tryd.prog 28 #[.slice A0 l0.length c0, .slice A1 l1.length c1] w fun e w' => e = .returned (.agg #[.int .i64 r1, .int .i64 r2]) ∧ Below w.heap.size w w' := by
 unfold half_Ask.f at h
 by_cases cg : 0 < l0.length ∧ l0.length ≤ 512 ∧ l1.length = l0.length ∧ parB l0 = true
 case neg =>
  rw [if_neg cg] at h; cases h

 rw [if_pos cg] at h
 by_cases c2 : rd l1 0 = 2
 case pos =>
  rw [if_pos c2] at h
  obtain ⟨wg, hL, h⟩ := Option.bind_eq_some_iff.mp h
  obtain ⟨d, hD, h⟩ := Option.bind_eq_some_iff.mp h
  by_cases cw : 0 ≤ wg ∧ wg < (l0.length : Int) ∧ d.length = l0.length
  case neg =>
   rw [if_neg cw] at h; cases h
  rw [if_pos cw] at h
  exact (callsIn_wide (n := 4)).1 (half_Ask.inW 4 (by omega) k A0 c0 l0 A1 c1 l1 wg d r1 r2 w hr0 hc0 hr1 hc1 c2 cg.1 cg.2.1 cg.2.2.1 cg.2.2.2 hL hD cw.1 cw.2.1 cw.2.2 h)
 rw [if_neg c2] at h
 obtain ⟨am, e, g⟩ := Kd.at_int hr1 0 (by omega) (by omega)
 cases e
 have HR0 := a_ hr0
 have HC0 := a_ hc0
 have HR1 := a_ hr1
 have HC1 := a_ hc1
 have HA := a_ h
 have hB2 : Below w.heap.size w ((w.alloc (.cells #[.slice (some am) l1.length c1] 34)).alloc (.cells #[.int .i64 0, .int .i64 0] 39)) := ((Below.refl _ w).alloc (Nat.le_refl _) _).alloc (by simp) _
 have bx0 := ((Boxed.new w 34 (.slice (some am) l1.length c1)).alloc (.cells #[.int .i64 0, .int .i64 0] 39))
 have bx1 := Boxed2.new (w.alloc (.cells #[.slice (some am) l1.length c1] 34)) 39 (.int .i64 0) (.int .i64 0)
 simp only [World.size_alloc] at bx1
 have g1 := (hB2.cell (World.block_lt_of_cell? w _ g)).trans g
 rw [show am.add (Int.toNat 0) = am from by cases am; rfl] at g1
 have cb := bx0.cell
 have HB2 := a_ (And.intro hB2 (And.intro bx0 bx1))
 have hpos : ((0 : Int) < (l1.length : Int)) = True := eq_true (by omega)
 have hposn : (0 < l1.length) = True := eq_true (by omega)
 have hne : (rd l1 0 != 2) = true := bne_iff_ne.2 c2
 have hu := Tryd.underlying39
 obtain ⟨W2, hW2⟩ : ∃ W2, (w.alloc (.cells #[.slice (some am) l1.length c1] 34)).alloc (.cells #[.int .i64 0, .int .i64 0] 39) = W2 := ⟨_, rfl⟩
 rw [hW2] at g1 cb HB2
 have HG := a_ hG
 clear hr0 hc0 hr1 hc1 h g bx0 bx1 hB2 cg c2 hG
 go_enter Tryd.func28, Tryd.ntmps28
 go_wp2_with (first
  | (go_at_call 29; (refine (top_Ask.calls k _ _ l0 _ _ l1 r1 r2 _ (Kd.C_below HR0.out HB2.out.1) HC0.out (Kd.C_below HR1.out HB2.out.1) HC1.out HA.out).mono ?_); rintro e w9 ⟨rfl, hb9⟩; have hr9 : Boxed2 w9 (w.heap.size + 1) 39 (.int .i64 0) (.int .i64 0) := (hb9.block _ HB2.out.2.2.lt).trans HB2.out.2.2; have HE9 := a_ (And.intro hr9 (HB2.out.1.trans (hb9.mono HB2.out.1.size))); have f90 := hr9.f0; have f91 := hr9.f1; have c90 := hr9.c0; have c91 := hr9.c1; clear hr9 hb9))
 refine bodyPost_ret (results_cell_row rfl _ _ (w.heap.size + 1) 39 #[.int .i64 r1, .int .i64 r2] (0, 0) _ rfl (HE9.out.1.put _ _) Tryd.underlying39 rfl (by kernel_rfl)) rfl ⟨rfl, ?_⟩
 exact (HE9.out.2.setCell (p := ⟨w.heap.size + 1, 0, none⟩) (Nat.le_succ _) _).setCell (p := ⟨w.heap.size + 1, 1, none⟩) (Nat.le_succ _) _
end Go.Proofs.YtgokcaccamfgfaaDoor.G
end
section
-- Laid by the session's own driver gp.py over the kit's printer. Not trusted: Lean checks it.
namespace Go.Proofs.YtgokcaccamfgfaaDoor.G
open Go.RowKit Go.Proofs.YtgokcaccamfgfaaDoorW.PrintWords Go.Proofs.YtgokcaccamfgfaaDoorW.PrintLast Go.Proofs.YtgokcaccamfgfaaDoorW.PrintMore
set_option maxHeartbeats 8000000
set_option maxRecDepth 100000
attribute [local go_sem] max2_int min2_int max_two min_two max_three min_three max_four min_four   -- for this text's walks alone
set_option linter.unusedVariables false
set_option linter.unusedSimpArgs false

def next_Ask.f (k : Nat) (a0 : Int) (l1 : List (S33)) (l2 : List Int) : Option (Int × Int) := if a0 = 1 then ((half_Ask.f k l1 l2).bind fun bt180 => (some (bt180.1, bt180.2))) else ((top_Ask.f k l1 l2).bind fun bt182 => (some (bt182.1, bt182.2)))
theorem next_Ask.mono : ∀ a0 a1 a2 k, LeO (next_Ask.f k a0 a1 a2) (next_Ask.f (k + 1) a0 a1 a2) := by
 intro a0 a1 a2 k
 unfold next_Ask.f
 repeat' first
  | (with_reducible exact half_Ask.mono _ _ _)
  | (with_reducible exact top_Ask.mono _ _ _)
  | (with_reducible exact LeO.refl _)
  | (with_reducible exact LeO.none _)
  | (with_reducible refine LeO.ite ?_ ?_)
  | (with_reducible refine LeO.bind ?_ (fun _ => ?_))
  | exact half_Ask.mono _ _ _
  | exact top_Ask.mono _ _ _
  | exact LeO.none _
  | refine LeO.ite ?_ ?_
  | refine LeO.bind ?_ (fun _ => ?_)
theorem next_Ask.calls (k : Nat) (a0 : Int) (A1 : Option Addr) (c1 : Nat) (l1 : List (S33)) (A2 : Option Addr) (c2 : Nat) (l2 : List Int) (r1 : Int) (r2 : Int) (w : World) (hr1 : Kd.C k33 w A1 l1.length l1) (hc1 : l1.length ≤ c1) (hr2 : Kd.C (Kd.int .i64) w A2 l2.length l2) (hc2 : l2.length ≤ c2) (h : next_Ask.f k a0 l1 l2 = some (r1, r2)) (hG : GOK w) :
 Calls Tryd.prog 21 #[.int .i64 a0, .slice A1 l1.length c1, .slice A2 l2.length c2] w fun e w' => e = .returned (.agg #[.int .i64 r1, .int .i64 r2]) ∧ Below w.heap.size w w' := by
 have hu39 := Tryd.underlying39
 have HR1 := a_ hr1
 have HC1 := a_ hc1
 clear hr1 hc1
 have HR2 := a_ hr2
 have HC2 := a_ hc2
 clear hr2 hc2
 have HB := a_ (Below.refl w.heap.size w)
 have H := h; unfold next_Ask.f at H
 clear h
 by_cases c4 : a0 = 1
 case neg =>
  rw [if_neg c4] at H
  have c4b0 : (a0 == 1) = false := beq_eq_false_iff_ne.mpr c4
  have c4b1 : (a0 != 1) = true := bne_iff_ne.mpr c4
  replace H := Option.bind_eq_some_iff.mp H
  obtain ⟨⟨t182, t183⟩, A100, H⟩ := H
  try dsimp only at H
  have A10 := a_ A100
  clear A100
  simp only [Option.some.injEq, Prod.mk.injEq] at H
  obtain ⟨rfl, rfl⟩ := H
  go_enter Tryd.func21, Tryd.ntmps21
  go_wp2_with (first | ((with_reducible refine gate_dst (N := 6) rfl ?_); refine boxE_ 6 #[.int .i64 0, .int .i64 0] 39 ?_; intro gb179 hg w11 hbox hb; have BK179 := a_ (hbox); have GW179 := a_ ((gE_ hg : w.heap.size ≤ gb179)); have GE179 := a_ ((gE_ hg : w.heap.size ≤ gb179)); replace HB := a_ (below_step hB_ hb); clear hb hbox hg) | ((with_reducible refine gate_callee (f := 29) rfl ?_); refine goesL_ (some 14) rfl rfl Tryd.func29 (by kernel_rfl) rfl #[.slice A1 l1.length c1, .slice A2 l2.length c2] rfl hL_ ?_; (with_reducible refine (top_Ask.calls k _ _ l1 _ _ l2 t182 t183 _ ?side1 ?side2 ?side3 ?side4 A10.out).mono ?_); (case side1 => exact cB_ HR1.out); (case side2 => exact HC1.out); (case side3 => exact cB_ HR2.out); (case side4 => exact HC2.out); rintro e w12 ⟨rfl, hb⟩; refine ⟨_, rfl, ?_⟩; replace BK179 := a_ (bB_ BK179.out hb); replace HB := a_ (below_step hC_ hb); (try clear hb); (try clear hb2); (try clear hk); (try clear hi); obtain ⟨hcz13_0, hcz13_1, hfz13_0, hfz13_1⟩ := bx2_ BK179.out) | ((with_reducible refine gate_store (t := 39) (p := 6) rfl ?_); refine store_event (t := 39) (p := 6) (v := ?vo_w14) (w1 := ((w12.setCell ⟨gb179, 0, none⟩ (.int .i64 t182)).setCell ⟨gb179, 1, none⟩ (.int .i64 t183))) ?hg ?ho ?hn ?hr ?_; (case ho => rfl); (case hg => rfl); (case hn => rfl); (case hr => first | (go_simp; done) | (go_simp; rfl)); intro w14 hw; replace BK179 : Aside0 (w14.heap[gb179]? = some (.cells #[.int .i64 t182, .int .i64 t183] 39 (0, 0))) := ⟨(by rw [hw]; exact (bP_ (bP_ (hK_ BK179.out))))⟩; replace HB : Aside0 (Below w.heap.size w w14) := ⟨(by rw [hw]; exact hC_)⟩; clear hw))
  refine bodyPost_ret (results_cell_row rfl _ _ gb179 39 #[.int .i64 t182, .int .i64 t183] (0, 0) _ rfl (hK_ BK179.out) Tryd.underlying39 rfl (by kernel_rfl)) rfl ?_
  exact ⟨hV_, hC_⟩

 rw [if_pos c4] at H
 have c4b0 : (a0 == 1) = true := beq_iff_eq.mpr c4
 have c4b1 : (a0 != 1) = false := bne_eq_false_iff_eq.mpr c4
 clear c4
 replace H := Option.bind_eq_some_iff.mp H
 obtain ⟨⟨t180, t181⟩, A50, H⟩ := H
 try dsimp only at H
 have A5 := a_ A50
 clear A50
 simp only [Option.some.injEq, Prod.mk.injEq] at H
 obtain ⟨rfl, rfl⟩ := H
 go_enter Tryd.func21, Tryd.ntmps21
 go_wp2_with (first | ((with_reducible refine gate_dst (N := 6) rfl ?_); refine boxE_ 6 #[.int .i64 0, .int .i64 0] 39 ?_; intro gb179 hg w6 hbox hb; have BK179 := a_ (hbox); have GW179 := a_ ((gE_ hg : w.heap.size ≤ gb179)); have GE179 := a_ ((gE_ hg : w.heap.size ≤ gb179)); replace HB := a_ (below_step hB_ hb); clear hb hbox hg) | ((with_reducible refine gate_callee (f := 28) rfl ?_); refine goesL_ (some 11) rfl rfl Tryd.func28 (by kernel_rfl) rfl #[.slice A1 l1.length c1, .slice A2 l2.length c2] rfl hL_ ?_; (with_reducible refine (half_Ask.calls k _ _ l1 _ _ l2 t180 t181 _ ?side1 ?side2 ?side3 ?side4 A5.out (by first | exact hG | exact GOK.below hG hC_)).mono ?_); (case side1 => exact cB_ HR1.out); (case side2 => exact HC1.out); (case side3 => exact cB_ HR2.out); (case side4 => exact HC2.out); rintro e w7 ⟨rfl, hb⟩; refine ⟨_, rfl, ?_⟩; replace BK179 := a_ (bB_ BK179.out hb); replace HB := a_ (below_step hC_ hb); (try clear hb); (try clear hb2); (try clear hk); (try clear hi); obtain ⟨hcz8_0, hcz8_1, hfz8_0, hfz8_1⟩ := bx2_ BK179.out) | ((with_reducible refine gate_store (t := 39) (p := 6) rfl ?_); refine store_event (t := 39) (p := 6) (v := ?vo_w9) (w1 := ((w7.setCell ⟨gb179, 0, none⟩ (.int .i64 t180)).setCell ⟨gb179, 1, none⟩ (.int .i64 t181))) ?hg ?ho ?hn ?hr ?_; (case ho => rfl); (case hg => rfl); (case hn => rfl); (case hr => first | (go_simp; done) | (go_simp; rfl)); intro w9 hw; replace BK179 : Aside0 (w9.heap[gb179]? = some (.cells #[.int .i64 t180, .int .i64 t181] 39 (0, 0))) := ⟨(by rw [hw]; exact (bP_ (bP_ (hK_ BK179.out))))⟩; replace HB : Aside0 (Below w.heap.size w w9) := ⟨(by rw [hw]; exact hC_)⟩; clear hw))
 refine bodyPost_ret (results_cell_row rfl _ _ gb179 39 #[.int .i64 t180, .int .i64 t181] (0, 0) _ rfl (hK_ BK179.out) Tryd.underlying39 rfl (by kernel_rfl)) rfl ?_
 exact ⟨hV_, hC_⟩
def next_Step.f (k : Nat) (l0_0 : List (S33)) (a0_1 : Int) (l0_2 : List (S26)) : Option (Int × Int × Int) := (next_Marks.f k l0_0 a0_1 l0_2).bind fun bt186 => (if bt186.2 = 0 then ((next_Way.f a0_1).bind fun t190 => (if t190 = true then ((next_Ask.f k a0_1 l0_0 bt186.1).bind fun bt191 => (some (bt191.1, bt191.2, 0))) else (some (0, 0, 2000)))) else (some (0, 0, 2000)))
theorem next_Step.mono : ∀ a0 a1 a2 k, LeO (next_Step.f k a0 a1 a2) (next_Step.f (k + 1) a0 a1 a2) := by
 intro a0 a1 a2 k
 unfold next_Step.f
 repeat' first
  | (with_reducible exact next_Ask.mono _ _ _ _)
  | (with_reducible exact next_Marks.mono _ _ _ _)
  | (with_reducible exact LeO.refl _)
  | (with_reducible exact LeO.none _)
  | (with_reducible refine LeO.ite ?_ ?_)
  | (with_reducible refine LeO.bind ?_ (fun _ => ?_))
  | exact next_Ask.mono _ _ _ _
  | exact next_Marks.mono _ _ _ _
  | exact LeO.none _
  | refine LeO.ite ?_ ?_
  | refine LeO.bind ?_ (fun _ => ?_)
theorem next_Step.calls (k : Nat) (A0_0 : Option Addr) (c0_0 : Nat) (l0_0 : List (S33)) (a0_1 : Int) (A0_2 : Option Addr) (c0_2 : Nat) (l0_2 : List (S26)) (r1 : Int) (r2 : Int) (r3 : Int) (w : World) (hr0_0 : Kd.C k33 w A0_0 l0_0.length l0_0) (hc0_0 : l0_0.length ≤ c0_0) (hr0_2 : Kd.C k26 w A0_2 l0_2.length l0_2) (hc0_2 : l0_2.length ≤ c0_2) (h : next_Step.f k l0_0 a0_1 l0_2 = some (r1, r2, r3)) (hG : GOK w) :
 Calls Tryd.prog 10 #[.agg #[.slice A0_0 l0_0.length c0_0, .int .i64 a0_1, .slice A0_2 l0_2.length c0_2]] w fun e w' => e = .returned (.tuple #[.agg #[.int .i64 r1, .int .i64 r2], .int .i64 r3]) ∧ Below w.heap.size w w' := by
 have hu29 := Tryd.underlying29
 have hu39 := Tryd.underlying39
 have HR0_0 := a_ hr0_0
 have HC0_0 := a_ hc0_0
 clear hr0_0 hc0_0
 have HR0_2 := a_ hr0_2
 have HC0_2 := a_ hc0_2
 clear hr0_2 hc0_2
 have HB := a_ (Below.refl w.heap.size w)
 have H := h; unfold next_Step.f at H
 clear h
 replace H := Option.bind_eq_some_iff.mp H
 obtain ⟨⟨t186, t189⟩, A20, H⟩ := H
 try dsimp only at H
 have A2 := a_ A20
 clear A20
 by_cases c3 : t189 = 0
 case neg =>
  rw [if_neg c3] at H
  have c3b0 : (t189 == 0) = false := beq_eq_false_iff_ne.mpr c3
  have c3b1 : (t189 != 0) = true := bne_iff_ne.mpr c3
  simp only [Option.some.injEq, Prod.mk.injEq] at H
  obtain ⟨rfl, rfl, rfl⟩ := H
  go_enter Tryd.func10, Tryd.ntmps10
  go_wp2_with (first | ((with_reducible refine gate_dst (N := 1) rfl ?_); refine boxE_ 1 #[.slice A0_0 l0_0.length c0_0, .int .i64 a0_1, .slice A0_2 l0_2.length c0_2] 29 ?_; intro gb184 hg w25 hbox hb; have BK184 := a_ (hbox); have GW184 := a_ ((gE_ hg : w.heap.size ≤ gb184)); have GE184 := a_ ((gE_ hg : w.heap.size ≤ gb184)); replace HB := a_ (below_step hB_ hb); clear hb hbox hg) | ((with_reducible refine gate_dst (N := 2) rfl ?_); refine boxE_ 2 #[.int .i64 0, .int .i64 0] 39 ?_; intro gb185 hg w26 hbox hb; have BK185 := a_ (hbox); have GW185 := a_ ((gE_ hg : w.heap.size ≤ gb185)); have GE185 := a_ ((gE_ hg : w.heap.size ≤ gb185)); replace HB := a_ (below_step hC_ hb); have NB184_185 := a_ ((bL_ BK184.out hg : gb184 ≠ gb185)); have NB185_184 := a_ ((bG_ BK184.out hg : gb185 ≠ gb184)); replace BK184 := a_ (bB_ BK184.out hb); clear hb hbox hg; have hnb27 := NB184_185.out; have hnc27 := NB185_184.out; obtain ⟨hcz28_0, hcz28_1, hcz28_2, hfz28_0, hfz28_1, hfz28_2⟩ := bx3_ BK184.out) | ((with_reducible refine gate_callee (f := 9) rfl ?_); refine goesL_ (some 8) rfl rfl Tryd.func9 (by kernel_rfl) rfl #[.agg #[.slice A0_0 l0_0.length c0_0, .int .i64 a0_1, .slice A0_2 l0_2.length c0_2]] rfl hL_ ?_; (with_reducible refine (next_Marks.calls k _ _ l0_0 a0_1 _ _ l0_2 t186 t189 _ ?side1 ?side2 ?side3 ?side4 A2.out (by first | exact hG | exact GOK.below hG hC_)).mono ?_); (case side1 => exact cB_ HR0_0.out); (case side2 => exact HC0_0.out); (case side3 => exact cB_ HR0_2.out); (case side4 => exact HC0_2.out); rintro e w29 ⟨v187, rfl, ho0, hb⟩; refine ⟨_, rfl, ?_⟩; have HO188 := a_ (Kd.R_lower ho0 (below_size hC_)); replace BK184 := a_ (bB_ BK184.out hb); replace BK185 := a_ (bB_ BK185.out hb); replace HB := a_ (below_step hC_ hb); (try clear hb); (try clear hb2); (try clear hk); (try clear hi); (try clear ho0); obtain ⟨hcz30_0, hcz30_1, hfz30_0, hfz30_1⟩ := bx2_ BK185.out) | ((with_reducible refine gate_store (t := 39) (p := 2) rfl ?_); refine store_event (t := 39) (p := 2) (v := ?vo_w31) (w1 := ((w29.setCell ⟨gb185, 0, none⟩ (.int .i64 0)).setCell ⟨gb185, 1, none⟩ (.int .i64 0))) ?hg ?ho ?hn ?hr ?_; (case ho => rfl); (case hg => rfl); (case hn => rfl); (case hr => first | (go_simp; done) | (go_simp; rfl)); intro w31 hw; replace HO188 : Aside0 (Kd.R (Kd.int .i64) 3 w31 w.heap.size (fun _ => True) v187 t186) := ⟨(by rw [hw]; exact (by (with_reducible repeat (first | apply Kd.R_alloc | apply Kd.R_drewN | apply Kd.R_drew)); exact Kd.R_mono (rF_ (rF_ (Kd.R_types HO188.out BK185.out (by decide)))) (fun _ hk => trivial)))⟩; replace BK184 : Aside0 (w31.heap[gb184]? = some (.cells #[.slice A0_0 l0_0.length c0_0, .int .i64 a0_1, .slice A0_2 l0_2.length c0_2] 29 (0, 0))) := ⟨(by rw [hw]; exact (bF_ (bF_ (hK_ BK184.out) NB184_185.out) NB184_185.out))⟩; replace BK185 : Aside0 (w31.heap[gb185]? = some (.cells #[.int .i64 0, .int .i64 0] 39 (0, 0))) := ⟨(by rw [hw]; exact (bP_ (bP_ (hK_ BK185.out))))⟩; replace HB : Aside0 (Below w.heap.size w w31) := ⟨(by rw [hw]; exact hC_)⟩; clear hw))
  refine bodyPost_ret (results_ct rfl _ _ gb185 39 #[.int .i64 0, .int .i64 0] (0, 0) _ rfl (hK_ BK185.out) Tryd.underlying39 rfl (by kernel_rfl)) rfl ?_
  exact ⟨hV_, hC_⟩

 rw [if_pos c3] at H
 have c3b0 : (t189 == 0) = true := beq_iff_eq.mpr c3
 have c3b1 : (t189 != 0) = false := bne_eq_false_iff_eq.mpr c3
 clear c3
 replace H := Option.bind_eq_some_iff.mp H
 obtain ⟨t190, A40, H⟩ := H
 try dsimp only at H
 have A4 := a_ A40
 clear A40
 by_cases c5 : t190 = true
 case neg =>
  replace c5 := Bool.eq_false_iff.mpr c5
  subst c5
  rw [if_neg (show ¬ (false = true) by decide)] at H
  simp only [Option.some.injEq, Prod.mk.injEq] at H
  obtain ⟨rfl, rfl, rfl⟩ := H
  go_enter Tryd.func10, Tryd.ntmps10
  go_wp2_with (first | ((with_reducible refine gate_dst (N := 1) rfl ?_); refine boxE_ 1 #[.slice A0_0 l0_0.length c0_0, .int .i64 a0_1, .slice A0_2 l0_2.length c0_2] 29 ?_; intro gb184 hg w17 hbox hb; have BK184 := a_ (hbox); have GW184 := a_ ((gE_ hg : w.heap.size ≤ gb184)); have GE184 := a_ ((gE_ hg : w.heap.size ≤ gb184)); replace HB := a_ (below_step hB_ hb); clear hb hbox hg) | ((with_reducible refine gate_dst (N := 2) rfl ?_); refine boxE_ 2 #[.int .i64 0, .int .i64 0] 39 ?_; intro gb185 hg w18 hbox hb; have BK185 := a_ (hbox); have GW185 := a_ ((gE_ hg : w.heap.size ≤ gb185)); have GE185 := a_ ((gE_ hg : w.heap.size ≤ gb185)); replace HB := a_ (below_step hC_ hb); have NB184_185 := a_ ((bL_ BK184.out hg : gb184 ≠ gb185)); have NB185_184 := a_ ((bG_ BK184.out hg : gb185 ≠ gb184)); replace BK184 := a_ (bB_ BK184.out hb); clear hb hbox hg; have hnb19 := NB184_185.out; have hnc19 := NB185_184.out; obtain ⟨hcz20_0, hcz20_1, hcz20_2, hfz20_0, hfz20_1, hfz20_2⟩ := bx3_ BK184.out) | ((with_reducible refine gate_callee (f := 9) rfl ?_); refine goesL_ (some 8) rfl rfl Tryd.func9 (by kernel_rfl) rfl #[.agg #[.slice A0_0 l0_0.length c0_0, .int .i64 a0_1, .slice A0_2 l0_2.length c0_2]] rfl hL_ ?_; (with_reducible refine (next_Marks.calls k _ _ l0_0 a0_1 _ _ l0_2 t186 t189 _ ?side1 ?side2 ?side3 ?side4 A2.out (by first | exact hG | exact GOK.below hG hC_)).mono ?_); (case side1 => exact cB_ HR0_0.out); (case side2 => exact HC0_0.out); (case side3 => exact cB_ HR0_2.out); (case side4 => exact HC0_2.out); rintro e w21 ⟨v187, rfl, ho0, hb⟩; refine ⟨_, rfl, ?_⟩; have HO188 := a_ (Kd.R_lower ho0 (below_size hC_)); replace BK184 := a_ (bB_ BK184.out hb); replace BK185 := a_ (bB_ BK185.out hb); replace HB := a_ (below_step hC_ hb); (try clear hb); (try clear hb2); (try clear hk); (try clear hi); (try clear ho0); obtain ⟨hcz22_0, hcz22_1, hcz22_2, hfz22_0, hfz22_1, hfz22_2⟩ := bx3_ BK184.out) | (go_at_call 20; (with_reducible refine (next_Way.calls a0_1 false _ A4.out).mono ?_); rintro e w' ⟨rfl, ⟨nd, rfl⟩⟩; (try (rw [drewN_self w21]; generalize hq_ : World.drewN w21 _ = w21; replace HO188 : Aside0 (Kd.R (Kd.int .i64) 3 w21 w.heap.size (fun _ => True) v187 t186) := ⟨by rw [← hq_]; exact (hR_ HO188.out)⟩; replace BK184 : Aside0 (w21.heap[gb184]? = some (.cells #[.slice A0_0 l0_0.length c0_0, .int .i64 a0_1, .slice A0_2 l0_2.length c0_2] 29 (0, 0))) := ⟨by rw [← hq_]; exact (hK_ BK184.out)⟩; replace BK185 : Aside0 (w21.heap[gb185]? = some (.cells #[.int .i64 0, .int .i64 0] 39 (0, 0))) := ⟨by rw [← hq_]; exact (hK_ BK185.out)⟩; replace HB : Aside0 (Below w.heap.size w w21) := ⟨by rw [← hq_]; exact hC_⟩; clear hq_; (try have hcu0_0 := bc0_ BK184.out); (try have hfu0_0 := blk_frozen BK184.out 0); (try have hcu0_1 := bc1_ BK184.out); (try have hfu0_1 := blk_frozen BK184.out 1); (try have hcu0_2 := bc2_ BK184.out); (try have hfu0_2 := blk_frozen BK184.out 2); (try have hcu1_0 := bc0_ BK185.out); (try have hfu1_0 := blk_frozen BK185.out 0); (try have hcu1_1 := bc1_ BK185.out); (try have hfu1_1 := blk_frozen BK185.out 1))); obtain ⟨hcz23_0, hcz23_1, hfz23_0, hfz23_1⟩ := bx2_ BK185.out) | ((with_reducible refine gate_store (t := 39) (p := 2) rfl ?_); refine store_event (t := 39) (p := 2) (v := ?vo_w24) (w1 := ((w21.setCell ⟨gb185, 0, none⟩ (.int .i64 0)).setCell ⟨gb185, 1, none⟩ (.int .i64 0))) ?hg ?ho ?hn ?hr ?_; (case ho => rfl); (case hg => rfl); (case hn => rfl); (case hr => first | (go_simp; done) | (go_simp; rfl)); intro w24 hw; replace HO188 : Aside0 (Kd.R (Kd.int .i64) 3 w24 w.heap.size (fun _ => True) v187 t186) := ⟨(by rw [hw]; exact (by (with_reducible repeat (first | apply Kd.R_alloc | apply Kd.R_drewN | apply Kd.R_drew)); exact Kd.R_mono (rF_ (rF_ (Kd.R_types HO188.out BK185.out (by decide)))) (fun _ hk => trivial)))⟩; replace BK184 : Aside0 (w24.heap[gb184]? = some (.cells #[.slice A0_0 l0_0.length c0_0, .int .i64 a0_1, .slice A0_2 l0_2.length c0_2] 29 (0, 0))) := ⟨(by rw [hw]; exact (bF_ (bF_ (hK_ BK184.out) NB184_185.out) NB184_185.out))⟩; replace BK185 : Aside0 (w24.heap[gb185]? = some (.cells #[.int .i64 0, .int .i64 0] 39 (0, 0))) := ⟨(by rw [hw]; exact (bP_ (bP_ (hK_ BK185.out))))⟩; replace HB : Aside0 (Below w.heap.size w w24) := ⟨(by rw [hw]; exact hC_)⟩; clear hw))
  refine bodyPost_ret (results_ct rfl _ _ gb185 39 #[.int .i64 0, .int .i64 0] (0, 0) _ rfl (hK_ BK185.out) Tryd.underlying39 rfl (by kernel_rfl)) rfl ?_
  exact ⟨hV_, hC_⟩
 subst c5
 rw [if_pos rfl] at H
 replace H := Option.bind_eq_some_iff.mp H
 obtain ⟨⟨t191, t192⟩, A60, H⟩ := H
 try dsimp only at H
 have A6 := a_ A60
 clear A60
 simp only [Option.some.injEq, Prod.mk.injEq] at H
 obtain ⟨rfl, rfl, rfl⟩ := H
 go_enter Tryd.func10, Tryd.ntmps10
 go_wp2_with (first | ((with_reducible refine gate_dst (N := 1) rfl ?_); refine boxE_ 1 #[.slice A0_0 l0_0.length c0_0, .int .i64 a0_1, .slice A0_2 l0_2.length c0_2] 29 ?_; intro gb184 hg w7 hbox hb; have BK184 := a_ (hbox); have GW184 := a_ ((gE_ hg : w.heap.size ≤ gb184)); have GE184 := a_ ((gE_ hg : w.heap.size ≤ gb184)); replace HB := a_ (below_step hB_ hb); clear hb hbox hg) | ((with_reducible refine gate_dst (N := 2) rfl ?_); refine boxE_ 2 #[.int .i64 0, .int .i64 0] 39 ?_; intro gb185 hg w8 hbox hb; have BK185 := a_ (hbox); have GW185 := a_ ((gE_ hg : w.heap.size ≤ gb185)); have GE185 := a_ ((gE_ hg : w.heap.size ≤ gb185)); replace HB := a_ (below_step hC_ hb); have NB184_185 := a_ ((bL_ BK184.out hg : gb184 ≠ gb185)); have NB185_184 := a_ ((bG_ BK184.out hg : gb185 ≠ gb184)); replace BK184 := a_ (bB_ BK184.out hb); clear hb hbox hg; have hnb9 := NB184_185.out; have hnc9 := NB185_184.out; obtain ⟨hcz10_0, hcz10_1, hcz10_2, hfz10_0, hfz10_1, hfz10_2⟩ := bx3_ BK184.out) | ((with_reducible refine gate_callee (f := 9) rfl ?_); refine goesL_ (some 8) rfl rfl Tryd.func9 (by kernel_rfl) rfl #[.agg #[.slice A0_0 l0_0.length c0_0, .int .i64 a0_1, .slice A0_2 l0_2.length c0_2]] rfl hL_ ?_; (with_reducible refine (next_Marks.calls k _ _ l0_0 a0_1 _ _ l0_2 t186 t189 _ ?side1 ?side2 ?side3 ?side4 A2.out (by first | exact hG | exact GOK.below hG hC_)).mono ?_); (case side1 => exact cB_ HR0_0.out); (case side2 => exact HC0_0.out); (case side3 => exact cB_ HR0_2.out); (case side4 => exact HC0_2.out); rintro e w11 ⟨v187, rfl, ho0, hb⟩; refine ⟨_, rfl, ?_⟩; have HO188 := a_ (Kd.R_lower ho0 (below_size hC_)); replace BK184 := a_ (bB_ BK184.out hb); replace BK185 := a_ (bB_ BK185.out hb); replace HB := a_ (below_step hC_ hb); (try clear hb); (try clear hb2); (try clear hk); (try clear hi); (try clear ho0); obtain ⟨hcz12_0, hcz12_1, hcz12_2, hfz12_0, hfz12_1, hfz12_2⟩ := bx3_ BK184.out) | (go_at_call 20; (with_reducible refine (next_Way.calls a0_1 true _ A4.out).mono ?_); rintro e w' ⟨rfl, ⟨nd, rfl⟩⟩; (try (rw [drewN_self w11]; generalize hq_ : World.drewN w11 _ = w11; replace HO188 : Aside0 (Kd.R (Kd.int .i64) 3 w11 w.heap.size (fun _ => True) v187 t186) := ⟨by rw [← hq_]; exact (hR_ HO188.out)⟩; replace BK184 : Aside0 (w11.heap[gb184]? = some (.cells #[.slice A0_0 l0_0.length c0_0, .int .i64 a0_1, .slice A0_2 l0_2.length c0_2] 29 (0, 0))) := ⟨by rw [← hq_]; exact (hK_ BK184.out)⟩; replace BK185 : Aside0 (w11.heap[gb185]? = some (.cells #[.int .i64 0, .int .i64 0] 39 (0, 0))) := ⟨by rw [← hq_]; exact (hK_ BK185.out)⟩; replace HB : Aside0 (Below w.heap.size w w11) := ⟨by rw [← hq_]; exact hC_⟩; clear hq_; (try have hcu0_0 := bc0_ BK184.out); (try have hfu0_0 := blk_frozen BK184.out 0); (try have hcu0_1 := bc1_ BK184.out); (try have hfu0_1 := blk_frozen BK184.out 1); (try have hcu0_2 := bc2_ BK184.out); (try have hfu0_2 := blk_frozen BK184.out 2); (try have hcu1_0 := bc0_ BK185.out); (try have hfu1_0 := blk_frozen BK185.out 0); (try have hcu1_1 := bc1_ BK185.out); (try have hfu1_1 := blk_frozen BK185.out 1))); obtain ⟨Ao13, co13, eo13⟩ := Kd.R_slice HO188.out; subst eo13) | ((with_reducible refine gate_callee (f := 21) rfl ?_); refine goesL_ (some 25) rfl rfl Tryd.func21 (by kernel_rfl) rfl #[.int .i64 a0_1, .slice A0_0 l0_0.length c0_0, .slice Ao13 t186.length co13] rfl hL_ ?_; (with_reducible refine (next_Ask.calls k a0_1 _ _ l0_0 _ _ t186 t191 t192 _ ?side1 ?side2 ?side3 ?side4 A6.out (by first | exact hG | exact GOK.below hG hC_)).mono ?_); (case side1 => exact cB_ HR0_0.out); (case side2 => exact HC0_0.out); (case side3 => exact cC_ (Kd.R_reads' HO188.out).2.2); (case side4 => exact (Kd.R_reads' HO188.out).2.1); rintro e w14 ⟨rfl, hb⟩; refine ⟨_, rfl, ?_⟩; replace HO188 := a_ (Kd.R_below (hR_ HO188.out) hb); replace BK184 := a_ (bB_ BK184.out hb); replace BK185 := a_ (bB_ BK185.out hb); replace HB := a_ (below_step hC_ hb); (try clear hb); (try clear hb2); (try clear hk); (try clear hi); obtain ⟨hcz15_0, hcz15_1, hfz15_0, hfz15_1⟩ := bx2_ BK185.out) | ((with_reducible refine gate_store (t := 39) (p := 2) rfl ?_); refine store_event (t := 39) (p := 2) (v := ?vo_w16) (w1 := ((w14.setCell ⟨gb185, 0, none⟩ (.int .i64 t191)).setCell ⟨gb185, 1, none⟩ (.int .i64 t192))) ?hg ?ho ?hn ?hr ?_; (case ho => rfl); (case hg => rfl); (case hn => rfl); (case hr => first | (go_simp; done) | (go_simp; rfl)); intro w16 hw; replace HO188 : Aside0 (Kd.R (Kd.int .i64) 3 w16 w.heap.size (fun _ => True) (.slice Ao13 t186.length co13) t186) := ⟨(by rw [hw]; exact (by (with_reducible repeat (first | apply Kd.R_alloc | apply Kd.R_drewN | apply Kd.R_drew)); exact Kd.R_mono (rF_ (rF_ (Kd.R_types HO188.out BK185.out (by decide)))) (fun _ hk => trivial)))⟩; replace BK184 : Aside0 (w16.heap[gb184]? = some (.cells #[.slice A0_0 l0_0.length c0_0, .int .i64 a0_1, .slice A0_2 l0_2.length c0_2] 29 (0, 0))) := ⟨(by rw [hw]; exact (bF_ (bF_ (hK_ BK184.out) NB184_185.out) NB184_185.out))⟩; replace BK185 : Aside0 (w16.heap[gb185]? = some (.cells #[.int .i64 t191, .int .i64 t192] 39 (0, 0))) := ⟨(by rw [hw]; exact (bP_ (bP_ (hK_ BK185.out))))⟩; replace HB : Aside0 (Below w.heap.size w w16) := ⟨(by rw [hw]; exact hC_)⟩; clear hw))
 refine bodyPost_ret (results_ct rfl _ _ gb185 39 #[.int .i64 t191, .int .i64 t192] (0, 0) _ rfl (hK_ BK185.out) Tryd.underlying39 rfl (by kernel_rfl)) rfl ?_
 exact ⟨hV_, hC_⟩
def sleuthlaw0_Num.f (a0 : Int) : Option (Int) := some a0
theorem sleuthlaw0_Num.calls (a0 : Int) (r : Int) (w : World) (h : sleuthlaw0_Num.f a0 = some r) :
 Calls Tryd.prog 11 #[.int .i64 a0] w fun e w' => e = .returned (.int .i64 r) ∧ Drawn0 w w' := by
 have H : (some a0) = some r := h
 clear h
 obtain rfl := Option.some.inj H
 go_enter Tryd.func11, Tryd.ntmps11
 go_wp2
 go_ret
 exact ⟨by first | rfl | (simp; done) | (simp [*]; done), by repeat (first | exact Drawn0.refl _ | apply Drawn0.step)⟩

end Go.Proofs.YtgokcaccamfgfaaDoor.G
end
section
-- Laid by the session's own driver gp.py over the kit's printer. Not trusted: Lean checks it.
namespace Go.Proofs.YtgokcaccamfgfaaDoor.G
open Go.RowKit Go.Proofs.YtgokcaccamfgfaaDoorW.PrintWords Go.Proofs.YtgokcaccamfgfaaDoorW.PrintLast Go.Proofs.YtgokcaccamfgfaaDoorW.PrintMore
set_option maxHeartbeats 8000000
set_option maxRecDepth 100000
attribute [local go_sem] max2_int min2_int max_two min_two max_three min_three max_four min_four   -- for this text's walks alone
set_option linter.unusedVariables false
set_option linter.unusedSimpArgs false

def sleuthlaw0_SameInts.l0 : Nat → List Int → List Int → Int → Option (Bool)
 | 0, _, _, _ => none
 | k + 1, x0, x1, x5 => if x5 < (x0.length : Int) then (if 0 ≤ x5 then (if x5 < (x1.length : Int) then (if (rd x0 x5) = (rd x1 x5) then (sleuthlaw0_SameInts.l0 k x0 x1 (wrap64 (x5 + 1))) else (some false)) else (none)) else (none)) else (some true)
def sleuthlaw0_SameInts.f (k : Nat) (l0 : List Int) (l1 : List Int) : Option (Bool) := if (l0.length : Int) = (l1.length : Int) then (sleuthlaw0_SameInts.l0 k l0 l1 0) else (some false)
theorem sleuthlaw0_SameInts.mono_l : ∀ k, (∀ y0 y1 y2, LeO (sleuthlaw0_SameInts.l0 k y0 y1 y2) (sleuthlaw0_SameInts.l0 (k + 1) y0 y1 y2))
 | 0 => fun _ _ _ r h => by simp [sleuthlaw0_SameInts.l0] at h
 | k + 1 => by
  have ih0 := sleuthlaw0_SameInts.mono_l k
  · intro y0 y1 y2
    unfold sleuthlaw0_SameInts.l0
    repeat' first
    | (with_reducible exact ih0 _ _ _)
    | (with_reducible exact LeO.refl _)
    | (with_reducible exact LeO.none _)
    | (with_reducible refine LeO.ite ?_ ?_)
    | (with_reducible refine LeO.bind ?_ (fun _ => ?_))
    | exact ih0 _ _ _
    | exact LeO.none _
    | refine LeO.ite ?_ ?_
    | refine LeO.bind ?_ (fun _ => ?_)
theorem sleuthlaw0_SameInts.mono : ∀ a0 a1 k, LeO (sleuthlaw0_SameInts.f k a0 a1) (sleuthlaw0_SameInts.f (k + 1) a0 a1) := by
 intro a0 a1 k
 have ih0 := sleuthlaw0_SameInts.mono_l k
 unfold sleuthlaw0_SameInts.f
 repeat' first
  | (with_reducible exact ih0 _ _ _)
  | (with_reducible exact LeO.refl _)
  | (with_reducible exact LeO.none _)
  | (with_reducible refine LeO.ite ?_ ?_)
  | (with_reducible refine LeO.bind ?_ (fun _ => ?_))
  | exact ih0 _ _ _
  | exact LeO.none _
  | refine LeO.ite ?_ ?_
  | refine LeO.bind ?_ (fun _ => ?_)
theorem sleuthlaw0_SameInts.calls (k : Nat) (A0 : Option Addr) (c0 : Nat) (l0 : List Int) (A1 : Option Addr) (c1 : Nat) (l1 : List Int) (r : Bool) (w : World) (hr0 : Kd.C (Kd.int .i64) w A0 l0.length l0) (hc0 : l0.length ≤ c0) (hr1 : Kd.C (Kd.int .i64) w A1 l1.length l1) (hc1 : l1.length ≤ c1) (h : sleuthlaw0_SameInts.f k l0 l1 = some r) :
 Calls Tryd.prog 13 #[.slice A0 l0.length c0, .slice A1 l1.length c1] w fun e w' => e = .returned (.bool r) ∧ Drawn0 w w' := by
 have HR0 := a_ hr0
 have HC0 := a_ hc0
 clear hr0 hc0
 have HR1 := a_ hr1
 have HC1 := a_ hc1
 clear hr1 hc1
 have H := h; unfold sleuthlaw0_SameInts.f at H
 clear h
 by_cases c3 : (l0.length : Int) = (l1.length : Int)
 case neg =>
  rw [if_neg c3] at H
  have c3b0 : ((l0.length : Int) == (l1.length : Int)) = false := beq_eq_false_iff_ne.mpr c3
  have c3b1 : ((l0.length : Int) != (l1.length : Int)) = true := bne_iff_ne.mpr c3
  have c3b2 : (l0.length == l1.length) = false := by first | simpa using c3 | (simp at c3 ⊢; omega)
  obtain rfl := Option.some.inj H
  go_enter Tryd.func13, Tryd.ntmps13
  go_wp2
  repeat (go_quiet (fail); try go_wp2)
  go_ret
  exact ⟨by first | rfl | (simp; done) | (simp [*]; done), by repeat (first | exact Drawn0.refl _ | apply Drawn0.step)⟩

 rw [if_pos c3] at H
 have c3b0 : ((l0.length : Int) == (l1.length : Int)) = true := beq_iff_eq.mpr c3
 have c3b1 : ((l0.length : Int) != (l1.length : Int)) = false := bne_eq_false_iff_eq.mpr c3
 have c3b2 : (l0.length == l1.length) = true := by first | simpa using c3 | (simp at c3 ⊢; omega)
 clear c3
 have H' := a_ H
 clear H
 go_enter Tryd.func13, Tryd.ntmps13
 go_wp2
 repeat (go_quiet (fail); try go_wp2)
 go_loopg [5] k (fun kq v5 w' => ∃ (x5_1 : Int), v5 = .int .i64 x5_1 ∧ Aside0 (sleuthlaw0_SameInts.l0 kq l0 l1 x5_1 = some r) ∧ Aside0 (kq ≤ k) ∧ Drawn0 w w')
 case atStart => exact ⟨(0), hW_, H', ⟨Nat.le_refl _⟩, by repeat (first | exact Drawn0.refl _ | apply Drawn0.step)⟩
 case round =>
  clear H'
  try clear c1
  try clear p2
  try clear c3
  try clear c3b0
  try clear c3b1
  try clear c3b2
  obtain ⟨x5_1, rfl, HA, HK1, ⟨m1, rfl⟩⟩ := hrel
  cases gk with
  | zero => exact absurd HA.out (by simp [sleuthlaw0_SameInts.l0])
  | succ k1 =>
   have H := HA.out
   clear HA
   simp only [sleuthlaw0_SameInts.l0] at H
   by_cases c4 : x5_1 < (l0.length : Int)
   case neg =>
    rw [if_neg c4] at H
    have c4b0 : decide (x5_1 < (l0.length : Int)) = false := decide_eq_false c4
    clear c4
    obtain rfl := Option.some.inj H
    go_wp2
    repeat (go_quiet (fail); try go_wp2)
    go_ret
    exact ⟨by first | rfl | (simp; done) | (simp [*]; done), by repeat (first | exact Drawn0.refl _ | apply Drawn0.step)⟩
   rw [if_pos c4] at H
   have c4b0 : decide (x5_1 < (l0.length : Int)) = true := decide_eq_true c4
   clear c4
   replace H := ifI_ H; obtain ⟨c5, H⟩ := H
   have c5b0 : decide (0 ≤ x5_1) = true := decide_eq_true c5
   clear c5
   replace H := ifI_ H; obtain ⟨c6, H⟩ := H
   have c6b0 : decide (x5_1 < (l1.length : Int)) = true := decide_eq_true c6
   clear c6
   by_cases c7 : (rd l0 x5_1) = (rd l1 x5_1)
   case neg =>
    rw [if_neg c7] at H
    have c7b0 : ((rd l0 x5_1) == (rd l1 x5_1)) = false := beq_eq_false_iff_ne.mpr c7
    have c7b1 : ((rd l0 x5_1) != (rd l1 x5_1)) = true := bne_iff_ne.mpr c7
    obtain rfl := Option.some.inj H
    have p193 : 0 ≤ (x5_1 : Int) := of_decide_eq_true hA_
    have q193 : x5_1 < (l0.length : Int) := of_decide_eq_true hA_
    obtain ⟨ad193, e193, hx193_0⟩ := Kd.at_int HR0.out x5_1 p193 q193
    cases e193
    replace p193 := eq_true p193
    replace q193 := eq_true q193
    have p194 : 0 ≤ (x5_1 : Int) := of_decide_eq_true hA_
    have q194 : x5_1 < (l1.length : Int) := of_decide_eq_true hA_
    obtain ⟨ad194, e194, hx194_0⟩ := Kd.at_int HR1.out x5_1 p194 q194
    cases e194
    replace p194 := eq_true p194
    replace q194 := eq_true q194
    go_wp2
    repeat (go_quiet (fail); try go_wp2)
    go_ret
    exact ⟨by first | rfl | (simp; done) | (simp [*]; done), by repeat (first | exact Drawn0.refl _ | apply Drawn0.step)⟩
   rw [if_pos c7] at H
   have c7b0 : ((rd l0 x5_1) == (rd l1 x5_1)) = true := beq_iff_eq.mpr c7
   have c7b1 : ((rd l0 x5_1) != (rd l1 x5_1)) = false := bne_eq_false_iff_eq.mpr c7
   clear c7
   have H' := a_ H
   clear H
   have p193 : 0 ≤ (x5_1 : Int) := of_decide_eq_true hA_
   have q193 : x5_1 < (l0.length : Int) := of_decide_eq_true hA_
   obtain ⟨ad193, e193, hx193_0⟩ := Kd.at_int HR0.out x5_1 p193 q193
   cases e193
   replace p193 := eq_true p193
   replace q193 := eq_true q193
   have p194 : 0 ≤ (x5_1 : Int) := of_decide_eq_true hA_
   have q194 : x5_1 < (l1.length : Int) := of_decide_eq_true hA_
   obtain ⟨ad194, e194, hx194_0⟩ := Kd.at_int HR1.out x5_1 p194 q194
   cases e194
   replace p194 := eq_true p194
   replace q194 := eq_true q194
   go_wp2
   repeat (go_quiet (fail); try go_wp2)
   go_roundg k1
   case measure => have := HK1.out; omega
   case rel => exact ⟨(wrap64 (x5_1 + 1)), hW_, H', ⟨by have := HK1.out; omega⟩, by repeat (first | exact Drawn0.refl _ | apply Drawn0.step)⟩
end Go.Proofs.YtgokcaccamfgfaaDoor.G
end
section
namespace Go.Proofs.YtgokcaccamfgfaaDoor.G
open Go.RowKit Go.Proofs.YtgokcaccamfgfaaDoorW.PrintWords Go.Proofs.YtgokcaccamfgfaaDoorW.PrintLast Go.Proofs.YtgokcaccamfgfaaDoorW.PrintMore
set_option linter.unusedVariables false
set_option linter.unusedSimpArgs false
def fineN (l : List Nd) : Prop := l.length * 56 ≤ 140737488351232 ∧ ∀ x ∈ l, (Lit.int .i64 x.f0).wf = true ∧ (Lit.int .i64 x.f1).wf = true ∧ (x.f2.length * 16 ≤ 140737488351232 ∧ ∀ s ∈ x.f2, s.size ≤ 140737488351232) ∧ x.f3.size ≤ 140737488351232
theorem fineN.ok {l : List Nd} (h : fineN l) : okN l := ⟨by have := h.1; omega, fun x hx => by have := (h.2 x hx).2.2.1.1; omega⟩
theorem sameInts_l0 (a : List Int) (ha : a.length ≤ 9223372036854775806) : ∀ (n i : Nat), i + n = a.length → Ev (fun k => sleuthlaw0_SameInts.l0 k a a (i : Int)) true := by
  intro n
  induction n with
  | zero =>
    intro i hi
    refine Ev.step (f := fun _ => some true) (fun k => ?_) (Ev.now _)
    rw [sleuthlaw0_SameInts.l0, if_neg (by omega)]
  | succ n ih =>
    intro i hi
    have hw : wrap64 ((i : Int) + 1) = ((i + 1 : Nat) : Int) := by rw [w64 (by omega) (by omega)]; omega
    refine Ev.step (f := fun k => sleuthlaw0_SameInts.l0 k a a ((i + 1 : Nat) : Int)) (fun k => ?_) (ih (i + 1) (by omega))
    rw [sleuthlaw0_SameInts.l0, if_pos (by omega), if_pos (by omega), if_pos (by omega), if_pos rfl, hw]
theorem sameInts_ev (a : List Int) (ha : a.length ≤ 9223372036854775806) : Ev (fun k => sleuthlaw0_SameInts.f k a a) true := by
  unfold sleuthlaw0_SameInts.f
  simp only [if_pos]
  exact sameInts_l0 a ha a.length 0 (by omega)
end Go.Proofs.YtgokcaccamfgfaaDoor.G
end
section
/- What is known of an argument that is a trail, and small facts on numbers. -/
namespace Go.Proofs.YtgokcaccamfgfaaDoor.G
open Go.RowKit Go.Proofs.YtgokcaccamfgfaaDoorW.PrintWords Go.Proofs.YtgokcaccamfgfaaDoorW.PrintLast Go.Proofs.YtgokcaccamfgfaaDoorW.PrintMore
set_option linter.unusedVariables false
set_option linter.unusedSimpArgs false
theorem and_range (x : Int) (m : Nat) (hm : m < 9223372036854775808) : 0 ≤ Go.bits .and .i64 x (m : Int) ∧ Go.bits .and .i64 x (m : Int) ≤ m := by
  have h : (BitVec.ofInt IntKind.i64.bits x &&& BitVec.ofInt IntKind.i64.bits (m : Int)).toNat ≤ m := by
    rw [BitVec.toNat_and, BitVec.ofInt_natCast, BitVec.toNat_ofNat]
    exact Nat.le_trans Nat.and_le_right (Nat.mod_le _ _)
  unfold Go.bits
  simp only [IntKind.wrap_i64]
  omega
theorem bits_nat (x : Int) (m : Nat) (hm : m < 9223372036854775808) : ∃ i : Nat, i ≤ m ∧ Go.bits .and .i64 x (m : Int) = (i : Int) := by
  have h := and_range x m hm
  exact ⟨(Go.bits .and .i64 x (m : Int)).toNat, by omega, by omega⟩
end Go.Proofs.YtgokcaccamfgfaaDoor.G
end
section
/- What package top answers, as plain functions. -/
namespace Go.Proofs.YtgokcaccamfgfaaDoor.G
open Go.RowKit Go.Proofs.YtgokcaccamfgfaaDoorW.PrintWords Go.Proofs.YtgokcaccamfgfaaDoorW.PrintLast Go.Proofs.YtgokcaccamfgfaaDoorW.PrintMore
set_option linter.unusedVariables false
set_option linter.unusedSimpArgs false
def oddB (x : Int) : Bool := decide (x < 0) || decide (3 < x)
def marksS (ns : List Nd) (ms : List Int) : Bool := mayT ns && (decide (ms.length = ns.length) && !ms.any oddB)
theorem marksS_spec {ns : List Nd} {ms : List Int} (h : marksS ns ms = true) : mayT ns = true ∧ ms.length = ns.length ∧ ∀ x ∈ ms, oddB x = false := by
  unfold marksS at h
  rw [Bool.and_eq_true, Bool.and_eq_true, decide_eq_true_iff, Bool.not_eq_true'] at h
  exact ⟨h.1, h.2.1, fun x hx => by have := List.any_eq_false.1 h.2.2 x hx; simpa using this⟩
theorem fstK_spec {ns : List Nd} {ms : List Int} {a m k : Int} (h : fstK ns ms a m = some k) : a < k ∧ k < (ns.length : Int) ∧ (rn ns k).f1 = a ∧ rd ms k = m := by
  unfold fstK at h
  have h1 := kidsTo_rng ns a k ns.length (List.mem_of_find?_eq_some h)
  have h2 := List.find?_some h
  exact ⟨h1.1, h1.2.1, h1.2.2, by simpa using h2⟩
theorem first_eq {ns : List Nd} {ms : List Int} (h : marksS ns ms = true) (a m : Int) (h0 : 0 ≤ a) (h1 : a < (ns.length : Int)) : top_first.f ns ms a m = some (match fstK ns ms a m with | some k => (k, true) | none => (0, false)) := by
  obtain ⟨hm, hl, _⟩ := marksS_spec h
  have hlen := mayT_len hm
  unfold top_first.f
  rw [if_pos ⟨h0, h1, by omega, hlen.2⟩]
  cases fstK ns ms a m <;> rfl
theorem bug_eq {ns : List Nd} {ms : List Int} (h : marksS ns ms = true) (a : Int) (h0 : 0 ≤ a) (h1 : a < (ns.length : Int)) : top_Bug.f ns ms a = some (bugS ns ms a) := by
  obtain ⟨hm, hl, _⟩ := marksS_spec h
  have hlen := mayT_len hm
  unfold top_Bug.f
  rw [if_pos ⟨h0, h1, by omega, hlen.2⟩]
def downT (ns : List Nd) (ms : List Int) : Nat → Int → Int
  | 0, a => a
  | n + 1, a => match fstK ns ms a 2 with | some k => downT ns ms n k | none => a
def finT (ns : List Nd) (ms : List Int) (a : Int) : Int × Int := match fstK ns ms a 0 with | some k => (0, k) | none => bugS ns ms a
def askT (ns : List Nd) (ms : List Int) : Int × Int := if rd ms 0 = 0 then (0, 0) else if rd ms 0 = 1 then (2, 0) else if rd ms 0 = 3 then (3, 0) else finT ns ms (downT ns ms ns.length 0)
theorem ask_l0 {ns : List Nd} {ms : List Int} (h : marksS ns ms = true) : ∀ (n : Nat) (a : Int), 0 ≤ a → a < (ns.length : Int) → (ns.length : Int) ≤ a + n → ∀ p : Int × Bool, p = (match fstK ns ms a 2 with | some k => (k, true) | none => (0, false)) → Ev (fun q => top_Ask.l0 q ns ms a p.1 p.2) (finT ns ms (downT ns ms n a)) := by
  intro n
  induction n with
  | zero => intro a h0 h1 h2; omega
  | succ n ih =>
    intro a h0 h1 h2 p hp
    cases hf : fstK ns ms a 2 with
    | some k =>
      rw [hf] at hp
      subst hp
      have hk := fstK_spec hf
      have e : downT ns ms (n + 1) a = downT ns ms n k := by rw [downT, hf]
      rw [e]
      refine Ev.step (f := fun q => top_Ask.l0 q ns ms k (match fstK ns ms k 2 with | some k => (k, true) | none => (0, false)).1 (match fstK ns ms k 2 with | some k => (k, true) | none => ((0 : Int), false)).2) (fun q => ?_) (ih k (by omega) hk.2.1 (by omega) _ rfl)
      rw [top_Ask.l0]
      simp only [if_pos, first_eq h k 2 (by omega) hk.2.1, Option.bind_some]
    | none =>
      rw [hf] at hp
      subst hp
      have e : downT ns ms (n + 1) a = a := by rw [downT, hf]
      rw [e]
      refine Ev.step (f := fun _ => some (finT ns ms a)) (fun q => ?_) (Ev.now _)
      rw [top_Ask.l0]
      simp only [if_neg Bool.false_ne_true, first_eq h a 0 h0 h1, Option.bind_some, bug_eq h a h0 h1]
      unfold finT
      cases fstK ns ms a 0 with
      | some k => simp only [if_pos]
      | none => simp only [if_neg Bool.false_ne_true]
theorem ask_ev {ns : List Nd} {ms : List Int} (h : marksS ns ms = true) : Ev (fun k => top_Ask.f k ns ms) (askT ns ms) := by
  obtain ⟨hm, hl, _⟩ := marksS_spec h
  have hlen := mayT_len hm
  unfold top_Ask.f askT
  have g : (0 : Int) < (ms.length : Int) := by omega
  simp only [if_pos g]
  by_cases c0 : rd ms 0 = 0
  · simp only [if_pos c0]; exact Ev.now _
  · simp only [if_neg c0]
    by_cases c1 : rd ms 0 = 1
    · simp only [if_pos c1]; exact Ev.now _
    · simp only [if_neg c1]
      by_cases c3 : rd ms 0 = 3
      · simp only [if_pos c3]; exact Ev.now _
      · simp only [if_neg c3, first_eq h 0 2 (by omega) (by omega), Option.bind_some]
        exact ask_l0 h ns.length 0 (by omega) (by omega) (by omega) _ rfl
end Go.Proofs.YtgokcaccamfgfaaDoor.G
end
section
/- What package half answers, as plain functions. -/
namespace Go.Proofs.YtgokcaccamfgfaaDoor.G
open Go.RowKit Go.Proofs.YtgokcaccamfgfaaDoorW.PrintWords Go.Proofs.YtgokcaccamfgfaaDoorW.PrintLast Go.Proofs.YtgokcaccamfgfaaDoorW.PrintMore
set_option linter.unusedVariables false
set_option linter.unusedSimpArgs false
def lastM (ms : List Int) : Nat → Int
  | 0 => 0
  | n + 1 => if rd ms (n : Int) = 2 then (n : Int) else lastM ms n
theorem lastM_range (ms : List Int) : ∀ n : Nat, 0 < n → 0 ≤ lastM ms n ∧ lastM ms n < (n : Int)
  | 0, h => absurd h (by omega)
  | n + 1, _ => by
    rw [lastM]
    split
    · omega
    · rcases Nat.eq_zero_or_pos n with c | c
      · subst c; show (0 : Int) ≤ 0 ∧ (0 : Int) < _; omega
      · have := lastM_range ms n c; omega
theorem last_half_l0 (ms : List Int) (hl : ms.length ≤ 9223372036854775806) : ∀ n i : Nat, i + n = ms.length → Ev (fun k => half_last.l0 k (lastM ms i) ms (ms.length : Int) (i : Int)) (lastM ms ms.length) := by
  intro n
  induction n with
  | zero =>
    intro i hi
    obtain rfl : i = ms.length := by omega
    refine Ev.step (f := fun _ => some (lastM ms ms.length)) (fun k => ?_) (Ev.now _)
    rw [half_last.l0, if_neg (by omega)]
  | succ n ih =>
    intro i hi
    have hw : wrap64 ((i : Int) + 1) = ((i + 1 : Nat) : Int) := by rw [w64 (by omega) (by omega)]; omega
    refine Ev.step (f := fun k => half_last.l0 k (lastM ms (i + 1)) ms (ms.length : Int) ((i + 1 : Nat) : Int)) (fun k => ?_) (ih (i + 1) (by omega))
    rw [half_last.l0, if_pos (by omega), if_pos (by omega), if_pos (by omega), hw, lastM]
    by_cases c : rd ms (i : Int) = 2
    · rw [if_pos c, if_pos c]
    · rw [if_neg c, if_neg c]
theorem last_half_ev (ms : List Int) (hl : ms.length ≤ 9223372036854775806) : Ev (fun k => half_last.f k ms) (lastM ms ms.length) := last_half_l0 ms hl ms.length 0 (by omega)
/-- which nodes are in doubt, up to place n -/
def dbt (ns : List Nd) (ms : List Int) (w : Nat) : Nat → List Bool
  | 0 => List.replicate ns.length false
  | n + 1 => if n ≤ w then dbt ns ms w n else
    (dbt ns ms w n).set n ((decide (pa ns n = (w : Int)) || rdOf false (dbt ns ms w n) (pa ns n)) && (rd ms (n : Int) != 1))
theorem dbt_len (ns : List Nd) (ms : List Int) (w : Nat) : ∀ n : Nat, (dbt ns ms w n).length = ns.length
  | 0 => List.length_replicate
  | n + 1 => by
    rw [dbt]
    split
    · exact dbt_len ns ms w n
    · rw [List.length_set]; exact dbt_len ns ms w n
theorem doubts_l0 {ns : List Nd} {ms : List Int} (h : marksS ns ms = true) (w : Nat) : ∀ n i : Nat, w < i → i + n = ns.length → Ev (fun k => half_doubts.l0 k ns ms (w : Int) (dbt ns ms w i) (i : Int)) (dbt ns ms w ns.length) := by
  obtain ⟨hm, hl, _⟩ := marksS_spec h
  have hlen := mayT_len hm
  intro n
  induction n with
  | zero =>
    intro i hw hi
    obtain rfl : i = ns.length := by omega
    refine Ev.step (f := fun _ => some (dbt ns ms w ns.length)) (fun k => ?_) (Ev.now _)
    rw [half_doubts.l0, if_neg (by omega)]
  | succ n ih =>
    intro i hwi hi
    have hp := mayT_pa hm i (by omega)
    have hw : wrap64 ((i : Int) + 1) = ((i + 1 : Nat) : Int) := by rw [w64 (by omega) (by omega)]; omega
    have hdl := dbt_len ns ms w i
    have hp' : (rd_T33 ns (i : Int)).f1 = pa ns i := rfl
    refine Ev.step (f := fun k => half_doubts.l0 k ns ms (w : Int) (dbt ns ms w (i + 1)) ((i + 1 : Nat) : Int)) (fun k => ?_) (ih (i + 1) (by omega) (by omega))
    rw [half_doubts.l0, if_pos (by omega), if_pos (by omega), hw, dbt, if_neg (show ¬ i ≤ w by omega), hp', Int.toNat_natCast]
    by_cases c : pa ns i = (w : Int)
    · rw [if_pos c, if_pos (by omega), if_pos (by omega), decide_eq_true c, Bool.true_or, Bool.true_and]
    · rw [if_neg c, if_pos (by omega), if_pos (by omega), decide_eq_false c, Bool.false_or]
      cases hb : rdOf false (dbt ns ms w i) (pa ns i) with
      | true => rw [if_pos rfl, if_pos (by omega), if_pos (by omega), Bool.true_and]
      | false => rw [if_neg Bool.false_ne_true, if_pos (by omega), Bool.false_and]
theorem dbt_low (ns : List Nd) (ms : List Int) (w : Nat) : ∀ n : Nat, n ≤ w + 1 → dbt ns ms w n = List.replicate ns.length false
  | 0, _ => rfl
  | n + 1, h => by rw [dbt, if_pos (by omega)]; exact dbt_low ns ms w n (by omega)
theorem doubts_ev {ns : List Nd} {ms : List Int} (h : marksS ns ms = true) (w : Nat) (hw : w < ns.length) : Ev (fun k => half_doubts.f k ns ms (w : Int)) (dbt ns ms w ns.length) := by
  obtain ⟨hm, hl, _⟩ := marksS_spec h
  have hlen := mayT_len hm
  have hw1 : wrap64 ((w : Int) + 1) = ((w + 1 : Nat) : Int) := by rw [w64 (by omega) (by omega)]; omega
  unfold half_doubts.f
  have g1 : (0 : Int) ≤ (ns.length : Int) := by omega
  have g2 : ns.length ≤ 281474976710656 := by omega
  simp only [if_pos g1, hw1, Int.toNat_natCast]
  simp only [if_pos g2]
  have := doubts_l0 h w (ns.length - (w + 1)) (w + 1) (by omega) (by omega)
  rw [dbt_low ns ms w (w + 1) (Nat.le_refl _)] at this
  exact this
theorem parB_of {ns : List Nd} (h : mayT ns = true) : parB ns = true := by
  unfold parB
  refine List.all_eq_true.2 fun i hi => decide_eq_true ?_
  have := mayT_pa h i (List.mem_range.1 hi)
  show (0 ≤ pa ns i ∧ pa ns i < (i : Int)) ∨ ((i : Int) = 0 ∧ pa ns i = -1)
  omega
def askH (ns : List Nd) (ms : List Int) : Int × Int :=
  if rd ms 0 = 2 then
    (if bestH (szH ns (dbt ns ms (lastM ms ms.length).toNat ns.length) ms) (dbt ns ms (lastM ms ms.length).toNat ns.length) ms (rd (szH ns (dbt ns ms (lastM ms ms.length).toNat ns.length) ms) (lastM ms ms.length)) ns.length < 0 then bugS ns ms (lastM ms ms.length)
      else (0, bestH (szH ns (dbt ns ms (lastM ms ms.length).toNat ns.length) ms) (dbt ns ms (lastM ms ms.length).toNat ns.length) ms (rd (szH ns (dbt ns ms (lastM ms ms.length).toNat ns.length) ms) (lastM ms ms.length)) ns.length))
  else askT ns ms
theorem askH_ev {ns : List Nd} {ms : List Int} (h : marksS ns ms = true) : Ev (fun k => half_Ask.f k ns ms) (askH ns ms) := by
  obtain ⟨hm, hl, _⟩ := marksS_spec h
  have hlen := mayT_len hm
  unfold half_Ask.f askH
  have cg : 0 < ns.length ∧ ns.length ≤ 512 ∧ ms.length = ns.length ∧ parB ns = true := ⟨hlen.1, hlen.2, hl, parB_of hm⟩
  simp only [if_pos cg]
  by_cases c : rd ms 0 = 2
  · simp only [if_pos c]
    have hr := lastM_range ms ms.length (by omega)
    refine Ev.bind (last_half_ev ms (by omega)) ?_
    obtain ⟨w, hw⟩ : ∃ w : Nat, lastM ms ms.length = (w : Int) := ⟨(lastM ms ms.length).toNat, by omega⟩
    rw [hw]
    rw [hw] at hr
    refine Ev.bind (doubts_ev h w (by omega)) ?_
    have cw : 0 ≤ (w : Int) ∧ (w : Int) < (ns.length : Int) ∧ (dbt ns ms w ns.length).length = ns.length := ⟨by omega, by omega, dbt_len ns ms w ns.length⟩
    simp only [if_pos cw, Int.toNat_natCast]
    by_cases cb : bestH (szH ns (dbt ns ms w ns.length) ms) (dbt ns ms w ns.length) ms (rd (szH ns (dbt ns ms w ns.length) ms) (w : Int)) ns.length < 0
    · simp only [if_pos cb, bug_eq h (w : Int) (by omega) (by omega)]; exact Ev.now _
    · simp only [if_neg cb]; exact Ev.now _
  · simp only [if_neg c]
    exact ask_ev h
end Go.Proofs.YtgokcaccamfgfaaDoor.G
end
section
/- What is known of the nodes in doubt. -/
namespace Go.Proofs.YtgokcaccamfgfaaDoor.G
open Go.RowKit Go.Proofs.YtgokcaccamfgfaaDoorW.PrintWords Go.Proofs.YtgokcaccamfgfaaDoorW.PrintLast Go.Proofs.YtgokcaccamfgfaaDoorW.PrintMore
set_option linter.unusedVariables false
set_option linter.unusedSimpArgs false
end Go.Proofs.YtgokcaccamfgfaaDoor.G
end
section
namespace Go.Proofs.YtgokcaccamfgfaaDoor.G
open Go.RowKit
set_option linter.unusedVariables false
set_option linter.unusedSimpArgs false

end Go.Proofs.YtgokcaccamfgfaaDoor.G
end
section
/- Sizes over a trail, as sums (for a seat that has tree.Sizes, but not tree.Size). -/
namespace Go.Proofs.YtgokcaccamfgfaaDoor.G
open Go.RowKit Go.Proofs.YtgokcaccamfgfaaDoorW.PrintWords Go.Proofs.YtgokcaccamfgfaaDoorW.PrintLast Go.Proofs.YtgokcaccamfgfaaDoorW.PrintMore
set_option linter.unusedVariables false
set_option linter.unusedSimpArgs false
def ps (ns : List Nd) : List Int := ns.map (·.f1)
def one (p : Int) : Nd := ⟨0, p, [], (⟨#[49]⟩ : ByteArray)⟩
end Go.Proofs.YtgokcaccamfgfaaDoor.G
end
section
/- The document's own answers of chapters 18 and 19, for trails and marks that may be, are the program's. -/

namespace Go.Proofs.YtgokcaccamfgfaaDoor.G
open Go.RowKit Go.Proofs.YtgokcaccamfgfaaDoorW.PrintWords Go.Proofs.YtgokcaccamfgfaaDoorW.PrintLast Go.Proofs.YtgokcaccamfgfaaDoorW.PrintMore
set_option linter.unusedVariables false
set_option linter.unusedSimpArgs false
end Go.Proofs.YtgokcaccamfgfaaDoor.G
end
section
/- A session by its fields, as the cards open it. -/
namespace Go.Proofs.YtgokcaccamfgfaaDoor.G
open Go.RowKit Go.Proofs.YtgokcaccamfgfaaDoorW.PrintWords Go.Proofs.YtgokcaccamfgfaaDoorW.PrintLast Go.Proofs.YtgokcaccamfgfaaDoorW.PrintMore
end Go.Proofs.YtgokcaccamfgfaaDoor.G
end
section
/- What package next answers, and the document's answer, as plain functions. -/
namespace Go.Proofs.YtgokcaccamfgfaaDoor.G
open Go.RowKit Go.Proofs.YtgokcaccamfgfaaDoorW.PrintWords Go.Proofs.YtgokcaccamfgfaaDoorW.PrintLast Go.Proofs.YtgokcaccamfgfaaDoorW.PrintMore
set_option linter.unusedVariables false
set_option linter.unusedSimpArgs false
abbrev An := S26
abbrev ra (zs : List An) (i : Int) : An := rd_T26 zs i
theorem drop_ra (l : List An) (i : Nat) (h : i < l.length) : l.drop i = ra l (i : Int) :: l.drop (i + 1) := by
  rw [List.drop_eq_getElem_cons h]
  congr 1
  show _ = List.getD _ _ _
  rw [Int.toNat_natCast, List.getD_eq_getElem?_getD, List.getElem?_eq_getElem h]; rfl
def markB (x : Int) : Bool := decide (1 ≤ x) && decide (x ≤ 3)
theorem markB_spec {x : Int} (h : markB x = true) : 1 ≤ x ∧ x ≤ 3 := by
  unfold markB at h
  rw [Bool.and_eq_true, decide_eq_true_iff, decide_eq_true_iff] at h
  exact h
theorem mark_eq (x : Int) : next_Mark.f x = some (markB x) := by
  unfold next_Mark.f markB
  by_cases c : 1 ≤ x
  · rw [if_pos (show x ≥ 1 from c), decide_eq_true c, Bool.true_and]
  · rw [if_neg (show ¬ x ≥ 1 from c), decide_eq_false c, Bool.false_and]
def wayB (x : Int) : Bool := x == 0 || x == 1
theorem way_eq (x : Int) : next_Way.f x = some (wayB x) := by
  unfold next_Way.f wayB
  by_cases c : x = 0
  · rw [if_pos c, beq_iff_eq.2 c]; rfl
  · rw [if_neg c, beq_eq_false_iff_ne.2 c]; rfl
/-- the marks that answers leave -/
def goA : List An → List Int → Option (List Int)
  | [], m => some m
  | a :: zs, m => if (decide (0 ≤ a.f0) && decide (a.f0 < (m.length : Int))) && markB a.f1 then goA zs (m.set a.f0.toNat a.f1) else none
def resA (o : Option (List Int)) : List Int × Int := match o with | some m => (m, 0) | none => ([], 2000)
theorem marks_l0 (zs : List An) (hl : zs.length ≤ 9223372036854775806) : ∀ (n i : Nat) (m : List Int), i + n = zs.length → Ev (fun k => next_Marks.l0 k m zs (zs.length : Int) (i : Int)) (resA (goA (zs.drop i) m)) := by
  intro n
  induction n with
  | zero =>
    intro i m hi
    rw [List.drop_eq_nil_of_le (by omega)]
    refine Ev.step (f := fun _ => some (m, 0)) (fun k => ?_) (Ev.now _)
    rw [next_Marks.l0, if_neg (by omega)]
  | succ n ih =>
    intro i m hi
    have hw : wrap64 ((i : Int) + 1) = ((i + 1 : Nat) : Int) := by rw [w64 (by omega) (by omega)]; omega
    rw [drop_ra zs i (by omega), goA]
    obtain ⟨a, ha⟩ : ∃ a, ra zs (i : Int) = a := ⟨_, rfl⟩
    have ha' : rd_T26 zs (i : Int) = a := ha
    rw [ha]
    by_cases c0 : 0 ≤ a.f0
    · by_cases c1 : a.f0 < (m.length : Int)
      · rw [decide_eq_true c0, decide_eq_true c1, Bool.and_self, Bool.true_and]
        by_cases c2 : markB a.f1 = true
        · rw [if_pos c2]
          refine Ev.step (f := fun k => next_Marks.l0 k (m.set a.f0.toNat a.f1) zs (zs.length : Int) ((i + 1 : Nat) : Int)) (fun k => ?_) (ih (i + 1) _ (by omega))
          rw [next_Marks.l0, if_pos (by omega), if_pos (by omega), if_pos (by omega), ha', if_neg (by omega), if_neg (by omega), mark_eq, Option.bind_some, if_pos c2, if_pos c0, if_pos c1, hw]
        · rw [if_neg c2]
          refine Ev.step (f := fun _ => some ([], 2000)) (fun k => ?_) (Ev.now _)
          rw [next_Marks.l0, if_pos (by omega), if_pos (by omega), if_pos (by omega), ha', if_neg (by omega), if_neg (by omega), mark_eq, Option.bind_some, if_neg c2]
      · rw [decide_eq_false c1, Bool.and_false, Bool.false_and, if_neg Bool.false_ne_true]
        refine Ev.step (f := fun _ => some ([], 2000)) (fun k => ?_) (Ev.now _)
        rw [next_Marks.l0, if_pos (by omega), if_pos (by omega), if_pos (by omega), ha', if_neg (by omega), if_pos (by omega)]
    · rw [decide_eq_false c0, Bool.false_and, Bool.false_and, if_neg Bool.false_ne_true]
      refine Ev.step (f := fun _ => some ([], 2000)) (fun k => ?_) (Ev.now _)
      rw [next_Marks.l0, if_pos (by omega), if_pos (by omega), if_pos (by omega), ha', if_pos (by omega)]
def marksF (ns : List Nd) (zs : List An) : List Int × Int := if (mayT ns && decide (zs.length ≤ 512)) = true then resA (goA zs (List.replicate ns.length 0)) else ([], 2000)
theorem marks_ev (ns : List Nd) (w : Int) (zs : List An) : Ev (fun k => next_Marks.f k ns w zs) (marksF ns zs) := by
  unfold next_Marks.f marksF
  refine Ev.bind (trailMay_ev ns) ?_
  cases hm : mayT ns with
  | false =>
    simp only [if_neg Bool.false_ne_true, Bool.false_and]
    refine Ev.step (f := fun _ => some ([], 2000)) (fun k => ?_) (Ev.now _)
    rw [next_Marks.j0, if_pos rfl]
  | true =>
    have hlen := mayT_len hm
    simp only [if_pos, Bool.true_and]
    by_cases c : zs.length ≤ 512
    · rw [decide_eq_false (show ¬ (zs.length : Int) > 512 by omega), if_pos (decide_eq_true c)]
      have h := marks_l0 zs (by omega) zs.length 0 (List.replicate ns.length 0) (by omega)
      refine Ev.step (fun k => ?_) h
      rw [next_Marks.j0, if_neg Bool.false_ne_true, if_pos (by omega), Int.toNat_natCast, if_pos (by omega)]; rfl
    · rw [decide_eq_true (show (zs.length : Int) > 512 by omega), if_neg (by rw [decide_eq_true_iff]; exact c)]
      refine Ev.step (f := fun _ => some ([], 2000)) (fun k => ?_) (Ev.now _)
      rw [next_Marks.j0, if_pos rfl]
theorem goA_ok : ∀ (zs : List An) (m m' : List Int), goA zs m = some m' → m'.length = m.length ∧ ((∀ x ∈ m, oddB x = false) → ∀ x ∈ m', oddB x = false)
  | [], m, m', h => by
    obtain rfl := Option.some.inj h
    exact ⟨rfl, fun hh => hh⟩
  | a :: zs, m, m', h => by
    rw [goA] at h
    by_cases c : ((decide (0 ≤ a.f0) && decide (a.f0 < (m.length : Int))) && markB a.f1) = true
    · rw [if_pos c] at h
      rw [Bool.and_eq_true] at c
      have hb := markB_spec c.2
      obtain ⟨h1, h2⟩ := goA_ok zs _ m' h
      rw [List.length_set] at h1
      refine ⟨h1, fun hh => h2 fun x hx => ?_⟩
      rcases List.mem_or_eq_of_mem_set hx with hx | rfl
      · exact hh x hx
      · unfold oddB
        rw [decide_eq_false (by omega), decide_eq_false (by omega)]; rfl
    · rw [if_neg c] at h; cases h
theorem marksF_ok {ns : List Nd} {zs : List An} (h : (marksF ns zs).2 = 0) : marksS ns (marksF ns zs).1 = true ∧ zs.length ≤ 512 ∧ goA zs (List.replicate ns.length 0) = some (marksF ns zs).1 := by
  unfold marksF at h ⊢
  by_cases c : (mayT ns && decide (zs.length ≤ 512)) = true
  · rw [if_pos c] at h ⊢
    rw [Bool.and_eq_true, decide_eq_true_iff] at c
    cases hg : goA zs (List.replicate ns.length 0) with
    | none => rw [hg] at h; exact absurd h (by decide)
    | some m =>
      obtain ⟨h1, h2⟩ := goA_ok zs _ m hg
      rw [List.length_replicate] at h1
      refine ⟨?_, c.2, rfl⟩
      show marksS ns m = true
      unfold marksS
      rw [c.1, h1, decide_eq_true rfl, Bool.true_and, Bool.true_and, Bool.not_eq_true']
      rw [List.any_eq_false]
      intro x hx
      rw [h2 (fun y hy => by rw [List.eq_of_mem_replicate hy]; rfl) x hx]
      exact Bool.false_ne_true
  · rw [if_neg c] at h; exact absurd h (by decide)
def askW (w : Int) (ns : List Nd) (ms : List Int) : Int × Int := if w = 1 then askH ns ms else askT ns ms
theorem nextAsk_ev {ns : List Nd} {ms : List Int} (h : marksS ns ms = true) (w : Int) : Ev (fun k => next_Ask.f k w ns ms) (askW w ns ms) := by
  unfold next_Ask.f askW
  by_cases c : w = 1
  · simp only [if_pos c]; exact Ev.bind (askH_ev h) (Ev.now _)
  · simp only [if_neg c]; exact Ev.bind (ask_ev h) (Ev.now _)
def stepF (ns : List Nd) (w : Int) (zs : List An) : Int × Int × Int := if (marksF ns zs).2 = 0 then (if wayB w = true then ((askW w ns (marksF ns zs).1).1, (askW w ns (marksF ns zs).1).2, 0) else (0, 0, 2000)) else (0, 0, 2000)
theorem step_ev (ns : List Nd) (w : Int) (zs : List An) : Ev (fun k => next_Step.f k ns w zs) (stepF ns w zs) := by
  unfold next_Step.f stepF
  refine Ev.bind (marks_ev ns w zs) ?_
  by_cases c : (marksF ns zs).2 = 0
  · simp only [if_pos c, way_eq, Option.bind_some]
    by_cases d : wayB w = true
    · simp only [if_pos d]; exact Ev.bind (nextAsk_ev (marksF_ok c).1 w) (Ev.now _)
    · simp only [if_neg d]; exact Ev.now _
  · simp only [if_neg c]; exact Ev.now _
end Go.Proofs.YtgokcaccamfgfaaDoor.G
end
section
-- Laid by the session's own driver gp.py over the kit's printer. Not trusted: Lean checks it.
namespace Go.Proofs.YtgokcaccamfgfaaDoor.G
open Go.RowKit Go.Proofs.YtgokcaccamfgfaaDoorW.PrintWords Go.Proofs.YtgokcaccamfgfaaDoorW.PrintLast Go.Proofs.YtgokcaccamfgfaaDoorW.PrintMore
set_option maxHeartbeats 8000000
set_option maxRecDepth 100000
attribute [local go_sem] max2_int min2_int max_two min_two max_three min_three max_four min_four   -- for this text's walks alone
set_option linter.unusedVariables false
set_option linter.unusedSimpArgs false

def sleuthlaw20_some.f  : Option ((List (S33))) := some (([(⟨0, (-1), ([] : List ByteArray), (⟨#[57]⟩ : ByteArray)⟩ : S33), (⟨1, 0, (([(⟨#[64, 55, 40, 95, 32, 52, 41]⟩ : ByteArray), (⟨#[53]⟩ : ByteArray)] : List ByteArray)), (⟨#[57]⟩ : ByteArray)⟩ : S33), (⟨2, 0, ([] : List ByteArray), (⟨#[33]⟩ : ByteArray)⟩ : S33), (⟨1, 1, (([(⟨#[49]⟩ : ByteArray), (⟨#[95]⟩ : ByteArray)] : List ByteArray)), (⟨#[95]⟩ : ByteArray)⟩ : S33), (⟨1, 2, (([(⟨#[49]⟩ : ByteArray), (⟨#[95]⟩ : ByteArray)] : List ByteArray)), (⟨#[95]⟩ : ByteArray)⟩ : S33)] : List (S33)))
theorem sleuthlaw20_some.calls  (r : List (S33)) (w : World) (h : sleuthlaw20_some.f  = some r) :
 Calls Tryd.prog 8 #[] w fun e w' => ∃ v0_ : Value, e = .returned (v0_) ∧ Kd.N k33 33 w' w.heap.size (fun k_ => (w.heap.size ≤ k_)) v0_ r ∧ Below w.heap.size w w' := by
 have hu33 := Tryd.underlying33
 have HB := a_ (Below.refl w.heap.size w)
 have H := h; unfold sleuthlaw20_some.f at H
 clear h
 obtain ⟨y101, hy101⟩ : ∃ y_ : List ByteArray, y_ = (([(⟨#[64, 55, 40, 95, 32, 52, 41]⟩ : ByteArray), (⟨#[53]⟩ : ByteArray)] : List ByteArray)) := ⟨_, rfl⟩
 replace H : (some (([(⟨0, (-1), ([] : List ByteArray), (⟨#[57]⟩ : ByteArray)⟩ : S33), (⟨1, 0, y101, (⟨#[57]⟩ : ByteArray)⟩ : S33), (⟨2, 0, ([] : List ByteArray), (⟨#[33]⟩ : ByteArray)⟩ : S33), (⟨1, 1, (([(⟨#[49]⟩ : ByteArray), (⟨#[95]⟩ : ByteArray)] : List ByteArray)), (⟨#[95]⟩ : ByteArray)⟩ : S33), (⟨1, 2, (([(⟨#[49]⟩ : ByteArray), (⟨#[95]⟩ : ByteArray)] : List ByteArray)), (⟨#[95]⟩ : ByteArray)⟩ : S33)] : List (S33)))) = some r := by first | (rw [hy101]; with_reducible exact H) | (have H2_ := (Option.bind_some _ _).symm.trans H; rw [hy101]; with_reducible exact H2_) | (have H2_ := (Option.bind_some _ _).symm.trans H; with_reducible exact H2_) | with_reducible exact H | (rw [hy101]; exact H) | exact H
 have Ny101 := a_ hy101
 clear hy101
 obtain ⟨y104, hy104⟩ : ∃ y_ : List ByteArray, y_ = (([(⟨#[49]⟩ : ByteArray), (⟨#[95]⟩ : ByteArray)] : List ByteArray)) := ⟨_, rfl⟩
 replace H : (some (([(⟨0, (-1), ([] : List ByteArray), (⟨#[57]⟩ : ByteArray)⟩ : S33), (⟨1, 0, y101, (⟨#[57]⟩ : ByteArray)⟩ : S33), (⟨2, 0, ([] : List ByteArray), (⟨#[33]⟩ : ByteArray)⟩ : S33), (⟨1, 1, y104, (⟨#[95]⟩ : ByteArray)⟩ : S33), (⟨1, 2, (([(⟨#[49]⟩ : ByteArray), (⟨#[95]⟩ : ByteArray)] : List ByteArray)), (⟨#[95]⟩ : ByteArray)⟩ : S33)] : List (S33)))) = some r := by first | (rw [hy104]; with_reducible exact H) | (have H2_ := (Option.bind_some _ _).symm.trans H; rw [hy104]; with_reducible exact H2_) | (have H2_ := (Option.bind_some _ _).symm.trans H; with_reducible exact H2_) | with_reducible exact H | (rw [hy104]; exact H) | exact H
 have Ny104 := a_ hy104
 clear hy104
 obtain ⟨y107, hy107⟩ : ∃ y_ : List ByteArray, y_ = (([(⟨#[49]⟩ : ByteArray), (⟨#[95]⟩ : ByteArray)] : List ByteArray)) := ⟨_, rfl⟩
 replace H : (some (([(⟨0, (-1), ([] : List ByteArray), (⟨#[57]⟩ : ByteArray)⟩ : S33), (⟨1, 0, y101, (⟨#[57]⟩ : ByteArray)⟩ : S33), (⟨2, 0, ([] : List ByteArray), (⟨#[33]⟩ : ByteArray)⟩ : S33), (⟨1, 1, y104, (⟨#[95]⟩ : ByteArray)⟩ : S33), (⟨1, 2, y107, (⟨#[95]⟩ : ByteArray)⟩ : S33)] : List (S33)))) = some r := by first | (rw [hy107]; with_reducible exact H) | (have H2_ := (Option.bind_some _ _).symm.trans H; rw [hy107]; with_reducible exact H2_) | (have H2_ := (Option.bind_some _ _).symm.trans H; with_reducible exact H2_) | with_reducible exact H | (rw [hy107]; exact H) | exact H
 have Ny107 := a_ hy107
 clear hy107
 obtain ⟨y110, hy110⟩ : ∃ y_ : List (S33), y_ = (([(⟨0, (-1), ([] : List ByteArray), (⟨#[57]⟩ : ByteArray)⟩ : S33), (⟨1, 0, y101, (⟨#[57]⟩ : ByteArray)⟩ : S33), (⟨2, 0, ([] : List ByteArray), (⟨#[33]⟩ : ByteArray)⟩ : S33), (⟨1, 1, y104, (⟨#[95]⟩ : ByteArray)⟩ : S33), (⟨1, 2, y107, (⟨#[95]⟩ : ByteArray)⟩ : S33)] : List (S33))) := ⟨_, rfl⟩
 replace H : (some y110) = some r := by first | (rw [hy110]; with_reducible exact H) | (have H2_ := (Option.bind_some _ _).symm.trans H; rw [hy110]; with_reducible exact H2_) | (have H2_ := (Option.bind_some _ _).symm.trans H; with_reducible exact H2_) | with_reducible exact H | (rw [hy110]; exact H) | exact H
 have Ny110 := a_ hy110
 clear hy110
 obtain rfl := Option.some.inj H
 go_enter Tryd.func8, Tryd.ntmps8
 go_wp2_with (first | ((with_reducible refine gate_dst (N := 2) rfl ?_); refine Kd.R_lit Kd.string _ 9 ?hg (N := 2) ?hd (xs := ([(⟨#[64, 55, 40, 95, 32, 52, 41]⟩ : ByteArray), (⟨#[53]⟩ : ByteArray)] : List ByteArray)) (inner := [.string (⟨#[64, 55, 40, 95, 32, 52, 41]⟩ : ByteArray), .string (⟨#[53]⟩ : ByteArray)]) (ok := fun _ => True) (okp := fun _ => True) ?hr ?hp (fun _ hk => hk) trivial (Below.refl _ _) (Nat.le_refl _) (by simp) ?_; (case hd => rfl); (case hg => rfl); (case hr => first | (go_simp; done) | (go_simp; rfl)); (case hp => exact (Reps.one (show Kd.M Kd.string _ _ _ (⟨#[64, 55, 40, 95, 32, 52, 41]⟩ : ByteArray) [.string (⟨#[64, 55, 40, 95, 32, 52, 41]⟩ : ByteArray)] from rfl) (Reps.one (show Kd.M Kd.string _ _ _ (⟨#[53]⟩ : ByteArray) [.string (⟨#[53]⟩ : ByteArray)] from rfl) (Reps.none _ _)))); intro v102 w1 ho2 hb hg_ hnew_; clear hg_ hnew_; (first | rw [← Ny101.out] at ho2 | (simp only [Int.reduceToNat] at ho2; rw [← Ny101.out] at ho2)); have HO103 := a_ (Kd.R_lower (Kd.R_newM (M := fun k_ => (w.heap.size ≤ k_)) ho2 hS_ (fun k_ h_ => h_)) hS_); replace HB := a_ (below_step hB_ hb); clear hb ho2; obtain ⟨Ao3, co3, eo3⟩ := Kd.R_slice HO103.out; subst eo3) | ((with_reducible refine gate_dst (N := 5) rfl ?_); refine Kd.R_lit Kd.string _ 9 ?hg (N := 5) ?hd (xs := ([(⟨#[49]⟩ : ByteArray), (⟨#[95]⟩ : ByteArray)] : List ByteArray)) (inner := [.string (⟨#[49]⟩ : ByteArray), .string (⟨#[95]⟩ : ByteArray)]) (ok := fun _ => True) (okp := fun _ => True) ?hr ?hp (fun _ hk => hk) trivial (Below.refl _ _) (Nat.le_refl _) (by simp) ?_; (case hd => rfl); (case hg => rfl); (case hr => first | (go_simp; done) | (go_simp; rfl)); (case hp => exact (Reps.one (show Kd.M Kd.string _ _ _ (⟨#[49]⟩ : ByteArray) [.string (⟨#[49]⟩ : ByteArray)] from rfl) (Reps.one (show Kd.M Kd.string _ _ _ (⟨#[95]⟩ : ByteArray) [.string (⟨#[95]⟩ : ByteArray)] from rfl) (Reps.none _ _)))); intro v105 w4 ho5 hb hg_ hnew_; clear hg_ hnew_; (first | rw [← Ny104.out] at ho5 | (simp only [Int.reduceToNat] at ho5; rw [← Ny104.out] at ho5)); have HO106 := a_ (Kd.R_lower (Kd.R_new' (Kd.R_newM (M := fun k_ => (w.heap.size ≤ k_)) ho5 hS_ (fun k_ h_ => h_)) (Kd.R_lt (hR_ HO103.out))) hS_); replace HO103 := a_ (Kd.R_elder' (hR_ HO103.out) (Kd.R_base ho5) hb); replace HB := a_ (below_step hB_ hb); clear hb ho5; obtain ⟨Ao6, co6, eo6⟩ := Kd.R_slice HO106.out; subst eo6) | ((with_reducible refine gate_dst (N := 7) rfl ?_); refine Kd.R_lit Kd.string _ 9 ?hg (N := 7) ?hd (xs := ([(⟨#[49]⟩ : ByteArray), (⟨#[95]⟩ : ByteArray)] : List ByteArray)) (inner := [.string (⟨#[49]⟩ : ByteArray), .string (⟨#[95]⟩ : ByteArray)]) (ok := fun _ => True) (okp := fun _ => True) ?hr ?hp (fun _ hk => hk) trivial (Below.refl _ _) (Nat.le_refl _) (by simp) ?_; (case hd => rfl); (case hg => rfl); (case hr => first | (go_simp; done) | (go_simp; rfl)); (case hp => exact (Reps.one (show Kd.M Kd.string _ _ _ (⟨#[49]⟩ : ByteArray) [.string (⟨#[49]⟩ : ByteArray)] from rfl) (Reps.one (show Kd.M Kd.string _ _ _ (⟨#[95]⟩ : ByteArray) [.string (⟨#[95]⟩ : ByteArray)] from rfl) (Reps.none _ _)))); intro v108 w7 ho8 hb hg_ hnew_; clear hg_ hnew_; (first | rw [← Ny107.out] at ho8 | (simp only [Int.reduceToNat] at ho8; rw [← Ny107.out] at ho8)); have HO109 := a_ (Kd.R_lower (Kd.R_new' (Kd.R_new' (Kd.R_newM (M := fun k_ => (w.heap.size ≤ k_)) ho8 hS_ (fun k_ h_ => h_)) (Kd.R_lt (hR_ HO103.out))) (Kd.R_lt (hR_ HO106.out))) hS_); replace HO103 := a_ (Kd.R_elder' (hR_ HO103.out) (Kd.R_base ho8) hb); replace HO106 := a_ (Kd.R_elder' (hR_ HO106.out) (Kd.R_base ho8) hb); replace HB := a_ (below_step hB_ hb); clear hb ho8; obtain ⟨Ao9, co9, eo9⟩ := Kd.R_slice HO109.out; subst eo9) | ((with_reducible refine gate_dst (N := 9) rfl ?_); refine Kd.N_lit k33 _ 33 ?hg (N' := 9) ?hd (xs := ([(⟨0, (-1), ([] : List ByteArray), (⟨#[57]⟩ : ByteArray)⟩ : S33), (⟨1, 0, y101, (⟨#[57]⟩ : ByteArray)⟩ : S33), (⟨2, 0, ([] : List ByteArray), (⟨#[33]⟩ : ByteArray)⟩ : S33), (⟨1, 1, y104, (⟨#[95]⟩ : ByteArray)⟩ : S33), (⟨1, 2, y107, (⟨#[95]⟩ : ByteArray)⟩ : S33)] : List (S33))) (inner := [.int .i64 0, .int .i64 (-1), .slice none 0 0, .string (⟨#[57]⟩ : ByteArray), .int .i64 1, .int .i64 0, .slice Ao3 y101.length co3, .string (⟨#[57]⟩ : ByteArray), .int .i64 2, .int .i64 0, .slice none 0 0, .string (⟨#[33]⟩ : ByteArray), .int .i64 1, .int .i64 1, .slice Ao6 y104.length co6, .string (⟨#[95]⟩ : ByteArray), .int .i64 1, .int .i64 2, .slice Ao9 y107.length co9, .string (⟨#[95]⟩ : ByteArray)]) (ok := (fun k_ => (w.heap.size ≤ k_))) (okp := (fun k_ => (w.heap.size ≤ k_))) ?hr ?hp (fun _ hk => hk) ((show ∀ k_, w7.heap.size ≤ k_ → (fun k_ => (w.heap.size ≤ k_)) k_ from fun k_ hk => (Nat.le_trans hS_ hk)) _ (Nat.le_refl _)) (Below.refl _ _) (Nat.le_refl _) (by simp) ?_; (case hd => rfl); (case hg => rfl); (case hr => first | (go_simp; done) | (go_simp; rfl)); (case hp => exact (Reps.c4 (show Kd.FK k33 _ _ (⟨0, (-1), ([] : List ByteArray), (⟨#[57]⟩ : ByteArray)⟩ : S33) [.int .i64 0, .int .i64 (-1), .slice none 0 0, .string (⟨#[57]⟩ : ByteArray)] from (k33_mkF _ _ (⟨0, (-1), ([] : List ByteArray), (⟨#[57]⟩ : ByteArray)⟩ : S33) (Nat.le_refl _) (Kd.F_nil _ _ _))) (Reps.c4 (show Kd.FK k33 _ _ (⟨1, 0, y101, (⟨#[57]⟩ : ByteArray)⟩ : S33) [.int .i64 1, .int .i64 0, .slice Ao3 y101.length co3, .string (⟨#[57]⟩ : ByteArray)] from (k33_mkF _ _ (⟨1, 0, y101, (⟨#[57]⟩ : ByteArray)⟩ : S33) (Kd.R_reads' (Kd.R_mono (ok' := (fun k_ => (w.heap.size ≤ k_))) (HO103.out) (fun k_ hk => hk.1.1.1))).2.1 (Kd.R_F (Kd.R_mono (ok' := (fun k_ => (w.heap.size ≤ k_))) (HO103.out) (fun k_ hk => hk.1.1.1))))) (Reps.c4 (show Kd.FK k33 _ _ (⟨2, 0, ([] : List ByteArray), (⟨#[33]⟩ : ByteArray)⟩ : S33) [.int .i64 2, .int .i64 0, .slice none 0 0, .string (⟨#[33]⟩ : ByteArray)] from (k33_mkF _ _ (⟨2, 0, ([] : List ByteArray), (⟨#[33]⟩ : ByteArray)⟩ : S33) (Nat.le_refl _) (Kd.F_nil _ _ _))) (Reps.c4 (show Kd.FK k33 _ _ (⟨1, 1, y104, (⟨#[95]⟩ : ByteArray)⟩ : S33) [.int .i64 1, .int .i64 1, .slice Ao6 y104.length co6, .string (⟨#[95]⟩ : ByteArray)] from (k33_mkF _ _ (⟨1, 1, y104, (⟨#[95]⟩ : ByteArray)⟩ : S33) (Kd.R_reads' (Kd.R_mono (ok' := (fun k_ => (w.heap.size ≤ k_))) (HO106.out) (fun k_ hk => hk.1.1.1))).2.1 (Kd.R_F (Kd.R_mono (ok' := (fun k_ => (w.heap.size ≤ k_))) (HO106.out) (fun k_ hk => hk.1.1.1))))) (Reps.c4 (show Kd.FK k33 _ _ (⟨1, 2, y107, (⟨#[95]⟩ : ByteArray)⟩ : S33) [.int .i64 1, .int .i64 2, .slice Ao9 y107.length co9, .string (⟨#[95]⟩ : ByteArray)] from (k33_mkF _ _ (⟨1, 2, y107, (⟨#[95]⟩ : ByteArray)⟩ : S33) (Kd.R_reads' (Kd.R_mono (ok' := (fun k_ => (w.heap.size ≤ k_))) (HO109.out) (fun k_ hk => hk.1.1.1))).2.1 (Kd.R_F (Kd.R_mono (ok' := (fun k_ => (w.heap.size ≤ k_))) (HO109.out) (fun k_ hk => hk.1.1.1))))) (Reps.none _ _))))))); intro v111 w10 ho11 hb hg_ hnew_; clear hg_ hnew_; (first | rw [← Ny110.out] at ho11 | (simp only [Int.reduceToNat] at ho11; rw [← Ny110.out] at ho11)); have HO112 := a_ (Kd.N_lower ho11 hS_); replace HB := a_ (below_step hB_ hb); clear HO103 HO106 HO109; clear hb ho11))
 go_ret
 exact ⟨_, hV_, hN_ HO112.out, hC_⟩

end Go.Proofs.YtgokcaccamfgfaaDoor.G
end
section
-- Laid by the session's own driver gp.py over the kit's printer. Not trusted: Lean checks it.
namespace Go.Proofs.YtgokcaccamfgfaaDoor.G
open Go.RowKit Go.Proofs.YtgokcaccamfgfaaDoorW.PrintWords Go.Proofs.YtgokcaccamfgfaaDoorW.PrintLast Go.Proofs.YtgokcaccamfgfaaDoorW.PrintMore
attribute [local go_sem] max2_int min2_int max_two min_two max_three min_three max_four min_four   -- for this text's walks alone
set_option linter.unusedVariables false
set_option linter.unusedSimpArgs false

theorem eqA39 (d : Nat) (w : World) (x0 y0 : Int) (x1 y1 : Int) :
 (Op.equalIn (d + 2) 39 (.agg #[.int .i64 x0, .int .i64 x1]) (.agg #[.int .i64 y0, .int .i64 y1])).run Tryd.prog w = .ok (x0 == y0 && (x1 == y1)) w := by
 refine eqA_of Tryd.underlying39 (by kernel_rfl) ?_
 refine eqf_cons (by rfl) (by go_simp; rfl) (by go_simp; rfl) (by go_simp) ?_
 exact eqf_last (by rfl) (by go_simp; rfl) (by go_simp; rfl) (by go_simp)
end Go.Proofs.YtgokcaccamfgfaaDoor.G
end
section
-- Laid by the session's own driver gp.py over the kit's printer. Not trusted: Lean checks it.
namespace Go.Proofs.YtgokcaccamfgfaaDoor.G
open Go.RowKit Go.Proofs.YtgokcaccamfgfaaDoorW.PrintWords Go.Proofs.YtgokcaccamfgfaaDoorW.PrintLast Go.Proofs.YtgokcaccamfgfaaDoorW.PrintMore
set_option maxHeartbeats 8000000
set_option maxRecDepth 100000
attribute [local go_sem] max2_int min2_int max_two min_two max_three min_three max_four min_four   -- for this text's walks alone
set_option linter.unusedVariables false
set_option linter.unusedSimpArgs false

attribute [local go_sem high] eqA39
def sleuthlaw20_awake.f (k : Nat)  : Option (Bool) := (sleuthlaw20_some.f).bind fun t195 => ((some (([(⟨0, 2⟩ : S26), (⟨1, 1⟩ : S26)] : List (S26)) : List (S26))).bind fun y198 => ((next_Marks.f k t195 0 y198).bind fun bt202 => ((next_Step.f k t195 0 y198).bind fun bt206 => ((next_Step.f k t195 2 y198).bind fun bt210 => (if 0 < (y198.length : Int) then ((next_Marks.f k t195 2 (y198.set (0 : Int).toNat (⟨(rd_T26 y198 0).f0, 0⟩ : S26))).bind fun bt215 => ((sleuthlaw0_SameInts.f k bt202.1 (([2, 1, 0, 0, 0] : List Int))).bind fun t222 => (if t222 = true then ((sleuthlaw0_Num.f bt202.2).bind fun t223 => (if t223 = 0 then (if (bt206.1 == 0 && (bt206.2.1 == 2)) = true then ((sleuthlaw0_Num.f bt206.2.2).bind fun t224 => (if t224 = 0 then ((sleuthlaw0_Num.f bt210.2.2).bind fun t225 => (if t225 = 2000 then ((sleuthlaw0_Num.f bt215.2).bind fun t226 => (some (t226 == 2000))) else (none))) else (none))) else (none)) else (none))) else (none)))) else (none))))))
theorem sleuthlaw20_awake.mono : ∀ k, LeO (sleuthlaw20_awake.f k ) (sleuthlaw20_awake.f (k + 1) ) := by
 intro  k
 unfold sleuthlaw20_awake.f
 repeat' first
  | (with_reducible exact next_Marks.mono _ _ _ _)
  | (with_reducible exact next_Step.mono _ _ _ _)
  | (with_reducible exact sleuthlaw0_SameInts.mono _ _ _)
  | (with_reducible exact LeO.refl _)
  | (with_reducible exact LeO.none _)
  | (with_reducible refine LeO.ite ?_ ?_)
  | (with_reducible refine LeO.bind ?_ (fun _ => ?_))
  | exact next_Marks.mono _ _ _ _
  | exact next_Step.mono _ _ _ _
  | exact sleuthlaw0_SameInts.mono _ _ _
  | exact LeO.none _
  | refine LeO.ite ?_ ?_
  | refine LeO.bind ?_ (fun _ => ?_)
theorem sleuthlaw20_awake.calls (k : Nat)  (r : Bool) (w : World) (h : sleuthlaw20_awake.f k  = some r) (hG : GOK w) :
 Calls Tryd.prog 7 #[] w fun e w' => e = .returned (.bool r) ∧ Below w.heap.size w w' := by
 have hu26 := Tryd.underlying26
 have hu29 := Tryd.underlying29
 have hu39 := Tryd.underlying39
 have HB := a_ (Below.refl w.heap.size w)
 have H := h; unfold sleuthlaw20_awake.f at H
 clear h
 replace H := Option.bind_eq_some_iff.mp H
 obtain ⟨t195, A10, H⟩ := H
 try dsimp only at H
 have A1 := a_ A10
 clear A10
 obtain ⟨y198, hy198⟩ : ∃ y_ : List (S26), y_ = (([(⟨0, 2⟩ : S26), (⟨1, 1⟩ : S26)] : List (S26))) := ⟨_, rfl⟩
 replace H : ((next_Marks.f k t195 0 y198).bind fun bt202 => ((next_Step.f k t195 0 y198).bind fun bt206 => ((next_Step.f k t195 2 y198).bind fun bt210 => (if 0 < (y198.length : Int) then ((next_Marks.f k t195 2 (y198.set (0 : Int).toNat (⟨(rd_T26 y198 0).f0, 0⟩ : S26))).bind fun bt215 => ((sleuthlaw0_SameInts.f k bt202.1 (([2, 1, 0, 0, 0] : List Int))).bind fun t222 => (if t222 = true then ((sleuthlaw0_Num.f bt202.2).bind fun t223 => (if t223 = 0 then (if (bt206.1 == 0 && (bt206.2.1 == 2)) = true then ((sleuthlaw0_Num.f bt206.2.2).bind fun t224 => (if t224 = 0 then ((sleuthlaw0_Num.f bt210.2.2).bind fun t225 => (if t225 = 2000 then ((sleuthlaw0_Num.f bt215.2).bind fun t226 => (some (t226 == 2000))) else (none))) else (none))) else (none)) else (none))) else (none)))) else (none))))) = some r := by first | (rw [hy198]; with_reducible exact H) | (have H2_ := (Option.bind_some _ _).symm.trans H; rw [hy198]; with_reducible exact H2_) | (have H2_ := (Option.bind_some _ _).symm.trans H; with_reducible exact H2_) | with_reducible exact H | (rw [hy198]; exact H) | exact H
 have Ny198 := a_ hy198
 clear hy198
 replace H := Option.bind_eq_some_iff.mp H
 obtain ⟨⟨t202, t205⟩, A20, H⟩ := H
 try dsimp only at H
 have A2 := a_ A20
 clear A20
 replace H := Option.bind_eq_some_iff.mp H
 obtain ⟨⟨t206, t207, t208⟩, A30, H⟩ := H
 try dsimp only at H
 have A3 := a_ A30
 clear A30
 replace H := Option.bind_eq_some_iff.mp H
 obtain ⟨⟨t210, t211, t212⟩, A40, H⟩ := H
 try dsimp only at H
 have A4 := a_ A40
 clear A40
 replace H := ifI_ H; obtain ⟨c5, H⟩ := H
 have c5b0 : decide (0 < (y198.length : Int)) = true := decide_eq_true c5
 have c5b1 : decide (0 < y198.length) = true := decide_eq_true (by omega)
 clear c5
 obtain ⟨y214, hy214⟩ : ∃ y_ : List (S26), y_ = (y198.set (0 : Int).toNat (⟨(rd_T26 y198 0).f0, 0⟩ : S26)) := ⟨_, rfl⟩
 replace H : ((next_Marks.f k t195 2 y214).bind fun bt215 => ((sleuthlaw0_SameInts.f k t202 (([2, 1, 0, 0, 0] : List Int))).bind fun t222 => (if t222 = true then ((sleuthlaw0_Num.f t205).bind fun t223 => (if t223 = 0 then (if (t206 == 0 && (t207 == 2)) = true then ((sleuthlaw0_Num.f t208).bind fun t224 => (if t224 = 0 then ((sleuthlaw0_Num.f t212).bind fun t225 => (if t225 = 2000 then ((sleuthlaw0_Num.f bt215.2).bind fun t226 => (some (t226 == 2000))) else (none))) else (none))) else (none)) else (none))) else (none)))) = some r := by first | (rw [hy214]; with_reducible exact H) | (have H2_ := (Option.bind_some _ _).symm.trans H; rw [hy214]; with_reducible exact H2_) | (have H2_ := (Option.bind_some _ _).symm.trans H; with_reducible exact H2_) | with_reducible exact H | (rw [hy214]; exact H) | exact H
 have Ny214 := a_ hy214
 clear hy214
 replace H := Option.bind_eq_some_iff.mp H
 obtain ⟨⟨t215, t218⟩, A70, H⟩ := H
 try dsimp only at H
 have A7 := a_ A70
 clear A70
 obtain ⟨y219, hy219⟩ : ∃ y_ : List Int, y_ = (([2, 1, 0, 0, 0] : List Int)) := ⟨_, rfl⟩
 replace H : ((sleuthlaw0_SameInts.f k t202 y219).bind fun t222 => (if t222 = true then ((sleuthlaw0_Num.f t205).bind fun t223 => (if t223 = 0 then (if (t206 == 0 && (t207 == 2)) = true then ((sleuthlaw0_Num.f t208).bind fun t224 => (if t224 = 0 then ((sleuthlaw0_Num.f t212).bind fun t225 => (if t225 = 2000 then ((sleuthlaw0_Num.f t218).bind fun t226 => (some (t226 == 2000))) else (none))) else (none))) else (none)) else (none))) else (none))) = some r := by first | (rw [hy219]; with_reducible exact H) | (have H2_ := (Option.bind_some _ _).symm.trans H; rw [hy219]; with_reducible exact H2_) | (have H2_ := (Option.bind_some _ _).symm.trans H; with_reducible exact H2_) | with_reducible exact H | (rw [hy219]; exact H) | exact H
 have Ny219 := a_ hy219
 clear hy219
 replace H := Option.bind_eq_some_iff.mp H
 obtain ⟨t222, A80, H⟩ := H
 try dsimp only at H
 have A8 := a_ A80
 clear A80
 by_cases c9 : t222 = true
 case neg =>
  replace c9 := Bool.eq_false_iff.mpr c9
  subst c9
  rw [if_neg (show ¬ (false = true) by decide)] at H
  cases H
 subst c9
 rw [if_pos rfl] at H
 replace H := Option.bind_eq_some_iff.mp H
 obtain ⟨t223, A100, H⟩ := H
 try dsimp only at H
 have A10 := a_ A100
 clear A100
 by_cases c11 : t223 = 0
 case neg =>
  rw [if_neg c11] at H
  have c11b0 : (t223 == 0) = false := beq_eq_false_iff_ne.mpr c11
  have c11b1 : (t223 != 0) = true := bne_iff_ne.mpr c11
  cases H
 rw [if_pos c11] at H
 have c11b0 : (t223 == 0) = true := beq_iff_eq.mpr c11
 have c11b1 : (t223 != 0) = false := bne_eq_false_iff_eq.mpr c11
 clear c11
 by_cases c12 : (t206 == 0 && (t207 == 2)) = true
 case neg =>
  rw [if_neg c12] at H
  have c12b0 : (t206 == 0 && (t207 == 2)) = false := by simpa using c12
  (try (have c12b1 : decide (t206 = 0 && (t207 == 2)) = false := by simpa using c12))
  (try (have c12b2 : (t206 == 0 && (t207 == 2)) = false := by simpa using c12))
  (try (have c12b3 : ¬ (t206 = 0 && (t207 == 2)) := by simpa using c12))
  clear c12
  cases H
 rw [if_pos c12] at H
 have c12b0 : (t206 == 0 && (t207 == 2)) = true := c12
 (try (have c12b1 : decide (t206 = 0 && (t207 == 2)) = true := by simpa using c12))
 (try (have c12b2 : (t206 == 0 && (t207 == 2)) = true := by simpa using c12))
 clear c12
 replace H := Option.bind_eq_some_iff.mp H
 obtain ⟨t224, A130, H⟩ := H
 try dsimp only at H
 have A13 := a_ A130
 clear A130
 by_cases c14 : t224 = 0
 case neg =>
  rw [if_neg c14] at H
  have c14b0 : (t224 == 0) = false := beq_eq_false_iff_ne.mpr c14
  have c14b1 : (t224 != 0) = true := bne_iff_ne.mpr c14
  cases H
 rw [if_pos c14] at H
 have c14b0 : (t224 == 0) = true := beq_iff_eq.mpr c14
 have c14b1 : (t224 != 0) = false := bne_eq_false_iff_eq.mpr c14
 clear c14
 replace H := Option.bind_eq_some_iff.mp H
 obtain ⟨t225, A150, H⟩ := H
 try dsimp only at H
 have A15 := a_ A150
 clear A150
 by_cases c16 : t225 = 2000
 case neg =>
  rw [if_neg c16] at H
  have c16b0 : (t225 == 2000) = false := beq_eq_false_iff_ne.mpr c16
  have c16b1 : (t225 != 2000) = true := bne_iff_ne.mpr c16
  cases H
 rw [if_pos c16] at H
 have c16b0 : (t225 == 2000) = true := beq_iff_eq.mpr c16
 have c16b1 : (t225 != 2000) = false := bne_eq_false_iff_eq.mpr c16
 clear c16
 replace H := Option.bind_eq_some_iff.mp H
 obtain ⟨t226, A170, H⟩ := H
 try dsimp only at H
 have A17 := a_ A170
 clear A170
 obtain rfl := Option.some.inj H
 go_enter Tryd.func7, Tryd.ntmps7
 go_wp2_with (first | ((with_reducible refine gate_callee (f := 8) rfl ?_); refine goesL_ (some 10) rfl rfl Tryd.func8 (by kernel_rfl) rfl #[] rfl hL_ ?_; (with_reducible refine (sleuthlaw20_some.calls  t195 _ A1.out).mono ?_); rintro e w18 ⟨v196, rfl, ho0, hb⟩; refine ⟨_, rfl, ?_⟩; have HO197 := a_ (Kd.N_lower (Kd.N_mono (ok' := fun k_ => True) ho0 (fun k_ hk_ => trivial)) hS_); replace HB := a_ (below_step hB_ hb); (try clear hb); (try clear hb2); (try clear hk); (try clear hi); (try clear ho0)) | ((with_reducible refine gate_dst (N := 13) rfl ?_); refine Kd.R_lit k26 _ 26 ?hg (N := 13) ?hd (xs := ([(⟨0, 2⟩ : S26), (⟨1, 1⟩ : S26)] : List (S26))) (inner := [.int .i64 0, .int .i64 2, .int .i64 1, .int .i64 1]) (ok := fun _ => True) (okp := fun _ => True) ?hr ?hp (fun _ hk => hk) trivial (Below.refl _ _) (Nat.le_refl _) (by simp) ?_; (case hd => rfl); (case hg => rfl); (case hr => first | (go_simp; done) | (go_simp; rfl)); (case hp => exact (Reps.c2 (show Kd.M k26 _ _ _ (⟨0, 2⟩ : S26) [.int .i64 0, .int .i64 2] from (k26_mkM _ _ _ (⟨0, 2⟩ : S26) )) (Reps.c2 (show Kd.M k26 _ _ _ (⟨1, 1⟩ : S26) [.int .i64 1, .int .i64 1] from (k26_mkM _ _ _ (⟨1, 1⟩ : S26) )) (Reps.none _ _)))); intro v199 w19 ho20 hb hg_ hnew_; clear hg_ hnew_; (first | rw [← Ny198.out] at ho20 | (simp only [Int.reduceToNat] at ho20; rw [← Ny198.out] at ho20)); replace HO197 := a_ (Kd.N_elder' (hN_ HO197.out) (Kd.R_base ho20) hb); have HO200 := a_ (Kd.R_lower ho20 hS_); replace HB := a_ (below_step hB_ hb); clear hb ho20; obtain ⟨Ao21, co21, eo21⟩ := Kd.R_slice HO200.out; subst eo21; obtain ⟨Ao22, co22, eo22⟩ := Kd.N_slice HO197.out; subst eo22) | ((with_reducible refine gate_dst (N := 1) rfl ?_); refine boxE_ 1 #[.slice none 0 0, .int .i64 0, .slice none 0 0] 29 ?_; intro gb201 hg w23 hbox hb; replace HO197 := a_ (Kd.N_below (Kd.N_elderB (hN_ HO197.out) gb201 (Nat.le_of_eq hg.symm)) hb); replace HO200 := a_ (Kd.R_below (hR_ HO200.out) hb); have BK201 := a_ (hbox); have GW201 := a_ ((gE_ hg : w.heap.size ≤ gb201)); have GE201 := a_ ((gE_ hg : w.heap.size ≤ gb201)); replace HB := a_ (below_step hB_ hb); clear hb hbox hg; obtain ⟨hcz24_0, hcz24_1, hcz24_2, hfz24_0, hfz24_1, hfz24_2⟩ := bx3_ BK201.out) | ((with_reducible refine gate_callee (f := 9) rfl ?_); refine goesL_ (some 17) rfl rfl Tryd.func9 (by kernel_rfl) rfl #[.agg #[.slice Ao22 t195.length co22, .int .i64 0, .slice Ao21 y198.length co21]] rfl hL_ ?_; (with_reducible refine (next_Marks.calls k _ _ t195 0 _ _ y198 t202 t205 _ ?side1 ?side2 ?side3 ?side4 A2.out (by first | exact hG | exact GOK.below hG hC_)).mono ?_); (case side1 => refine (Kd.N_reads' (e := 33) (base := w.heap.size) (ok := fun k_ => ((True ∧ some k_ ≠ (.slice Ao21 y198.length co21 : Value).ownBlock) ∧ k_ ≠ gb201)) (n := t195.length) (c := co22) ?_).2.2; exact (by (with_reducible repeat (first | apply Kd.N_alloc | apply Kd.N_drewN | apply Kd.N_drew)); exact (Kd.N_mono (nF_ (nF_ (nF_ (Kd.N_mono HO197.out (fun k_ hk => (⟨hk, hk.2⟩ : _ ∧ k_ ≠ gb201)))))) (fun _ h_ => h_.1)))); (case side2 => exact (Kd.N_reads' HO197.out).2.1); (case side3 => refine (Kd.R_reads' (e := 26) (base := w.heap.size) (ok := fun k_ => True) (n := y198.length) (c := co21) ?_).2.2; exact (by (with_reducible repeat (first | apply Kd.R_alloc | apply Kd.R_drewN | apply Kd.R_drew)); exact (Kd.R_mono (rF_ (rF_ (rF_ (Kd.R_types HO200.out BK201.out (by decide))))) (fun _ h_ => h_.1)))); (case side4 => exact (Kd.R_reads' HO200.out).2.1); rintro e w25 ⟨v203, rfl, ho0, hb⟩; refine ⟨_, rfl, ?_⟩; replace HO197 := a_ (Kd.N_elder' (by (with_reducible repeat (first | apply Kd.N_alloc | apply Kd.N_drewN | apply Kd.N_drew)); exact (Kd.N_mono (nF_ (nF_ (nF_ (Kd.N_mono HO197.out (fun k_ hk => (⟨hk, hk.2⟩ : _ ∧ k_ ≠ gb201)))))) (fun _ h_ => h_.1))) (Kd.R_base ho0) hb); replace HO200 := a_ (Kd.R_below (by (with_reducible repeat (first | apply Kd.R_alloc | apply Kd.R_drewN | apply Kd.R_drew)); exact (Kd.R_mono (rF_ (rF_ (rF_ (Kd.R_types HO200.out BK201.out (by decide))))) (fun _ h_ => h_.1))) hb); have HO204 := a_ (Kd.R_lower ho0 (below_size hC_)); replace BK201 := a_ (blk_below (g := gb201) (o := .cells #[.slice Ao22 t195.length co22, .int .i64 0, .slice Ao21 y198.length co21] 29 (0, 0)) (by (with_reducible repeat (first | refine blk_drewN ?_ _ | refine blk_drew ?_ | refine blk_alloc ?_ _)); exact (bP_ (bP_ (bP_ (hK_ BK201.out))))) hb); replace HB := a_ (below_step hC_ hb); (try clear hb); (try clear hb2); (try clear hk); (try clear hi); (try clear ho0); obtain ⟨hcz26_0, hcz26_1, hcz26_2, hfz26_0, hfz26_1, hfz26_2⟩ := bx3_ BK201.out) | ((with_reducible refine gate_callee (f := 10) rfl ?_); refine goesL_ (some 22) rfl rfl Tryd.func10 (by kernel_rfl) rfl #[.agg #[.slice Ao22 t195.length co22, .int .i64 0, .slice Ao21 y198.length co21]] rfl hL_ ?_; (with_reducible refine (next_Step.calls k _ _ t195 0 _ _ y198 t206 t207 t208 _ ?side1 ?side2 ?side3 ?side4 A3.out (by first | exact hG | exact GOK.below hG hC_)).mono ?_); (case side1 => repeat (first | exact (Kd.N_reads' HO197.out).2.2 | (with_reducible refine Kd.C_alloc ?_ _) | (with_reducible refine Kd.C_drewN ?_ _) | (with_reducible refine Kd.C_drew ?_))); (case side2 => exact (Kd.N_reads' HO197.out).2.1); (case side3 => exact cC_ (Kd.R_reads' HO200.out).2.2); (case side4 => exact (Kd.R_reads' HO200.out).2.1); rintro e w27 ⟨rfl, hb⟩; refine ⟨_, rfl, ?_⟩; replace HO197 := a_ (Kd.N_below (hN_ HO197.out) hb); replace HO200 := a_ (Kd.R_below (hR_ HO200.out) hb); replace HO204 := a_ (Kd.R_below (hR_ HO204.out) hb); replace BK201 := a_ (bB_ BK201.out hb); replace HB := a_ (below_step hC_ hb); (try clear hb); (try clear hb2); (try clear hk); (try clear hi)) | ((with_reducible refine gate_dst (N := 4) rfl ?_); refine boxE_ 4 #[.int .i64 0, .int .i64 0] 39 ?_; intro gb209 hg w28 hbox hb; replace HO197 := a_ (Kd.N_below (Kd.N_elderB (hN_ HO197.out) gb209 (Nat.le_of_eq hg.symm)) hb); replace HO200 := a_ (Kd.R_below (hR_ HO200.out) hb); replace HO204 := a_ (Kd.R_below (hR_ HO204.out) hb); have BK209 := a_ (hbox); have GW209 := a_ ((gE_ hg : w.heap.size ≤ gb209)); have GE209 := a_ ((gE_ hg : w.heap.size ≤ gb209)); replace HB := a_ (below_step hC_ hb); have NB201_209 := a_ ((bL_ BK201.out hg : gb201 ≠ gb209)); have NB209_201 := a_ ((bG_ BK201.out hg : gb209 ≠ gb201)); replace BK201 := a_ (bB_ BK201.out hb); clear hb hbox hg; have hnb29 := NB209_201.out; have hnc29 := NB201_209.out; obtain ⟨hcz30_0, hcz30_1, hfz30_0, hfz30_1⟩ := bx2_ BK209.out; obtain ⟨hcz31_0, hcz31_1, hcz31_2, hfz31_0, hfz31_1, hfz31_2⟩ := bx3_ BK201.out) | ((with_reducible refine gate_callee (f := 10) rfl ?_); refine goesL_ (some 28) rfl rfl Tryd.func10 (by kernel_rfl) rfl #[.agg #[.slice Ao22 t195.length co22, .int .i64 2, .slice Ao21 y198.length co21]] rfl hL_ ?_; (with_reducible refine (next_Step.calls k _ _ t195 2 _ _ y198 t210 t211 t212 _ ?side1 ?side2 ?side3 ?side4 A4.out (by first | exact hG | exact GOK.below hG hC_)).mono ?_); (case side1 => refine (Kd.N_reads' (e := 33) (base := w.heap.size) (ok := fun k_ => ((((True ∧ some k_ ≠ (.slice Ao21 y198.length co21 : Value).ownBlock) ∧ k_ ≠ gb201) ∧ some k_ ≠ (v203 : Value).ownBlock) ∧ k_ ≠ gb209)) (n := t195.length) (c := co22) ?_).2.2; exact (by (with_reducible repeat (first | apply Kd.N_alloc | apply Kd.N_drewN | apply Kd.N_drew)); exact (Kd.N_mono (Kd.N_mono (nF_ (Kd.N_far (p := ⟨gb209, 1, none⟩) (Kd.N_far (p := ⟨gb209, 0, none⟩) (Kd.N_mono (Kd.N_mono HO197.out (fun k_ hk => (⟨hk, hk.2⟩ : _ ∧ k_ ≠ gb209))) (fun k_ hk => (⟨hk, hk.1.1.1.2⟩ : _ ∧ k_ ≠ gb201))) (fun _ hk => hk.1.2) (.int .i64 t206)) (fun _ hk => hk.1.2) (.int .i64 t207))) (fun _ h_ => h_.1)) (fun _ h_ => h_.1)))); (case side2 => exact (Kd.N_reads' HO197.out).2.1); (case side3 => refine (Kd.R_reads' (e := 26) (base := w.heap.size) (ok := fun k_ => True) (n := y198.length) (c := co21) ?_).2.2; exact (by (with_reducible repeat (first | apply Kd.R_alloc | apply Kd.R_drewN | apply Kd.R_drew)); exact (Kd.R_mono (Kd.R_mono (rF_ (Kd.R_far (p := ⟨gb209, 1, none⟩) (Kd.R_far (p := ⟨gb209, 0, none⟩) (Kd.R_types (Kd.R_types HO200.out BK209.out (by decide)) BK201.out (by decide)) (fun _ hk => hk.1.2) (.int .i64 t206)) (fun _ hk => hk.1.2) (.int .i64 t207))) (fun _ h_ => h_.1)) (fun _ h_ => h_.1)))); (case side4 => exact (Kd.R_reads' HO200.out).2.1); rintro e w32 ⟨rfl, hb⟩; refine ⟨_, rfl, ?_⟩; replace HO197 := a_ (Kd.N_below (by (with_reducible repeat (first | apply Kd.N_alloc | apply Kd.N_drewN | apply Kd.N_drew)); exact (Kd.N_mono (Kd.N_mono (nF_ (Kd.N_far (p := ⟨gb209, 1, none⟩) (Kd.N_far (p := ⟨gb209, 0, none⟩) (Kd.N_mono (Kd.N_mono HO197.out (fun k_ hk => (⟨hk, hk.2⟩ : _ ∧ k_ ≠ gb209))) (fun k_ hk => (⟨hk, hk.1.1.1.2⟩ : _ ∧ k_ ≠ gb201))) (fun _ hk => hk.1.2) (.int .i64 t206)) (fun _ hk => hk.1.2) (.int .i64 t207))) (fun _ h_ => h_.1)) (fun _ h_ => h_.1))) hb); replace HO200 := a_ (Kd.R_below (by (with_reducible repeat (first | apply Kd.R_alloc | apply Kd.R_drewN | apply Kd.R_drew)); exact (Kd.R_mono (Kd.R_mono (rF_ (Kd.R_far (p := ⟨gb209, 1, none⟩) (Kd.R_far (p := ⟨gb209, 0, none⟩) (Kd.R_types (Kd.R_types HO200.out BK209.out (by decide)) BK201.out (by decide)) (fun _ hk => hk.1.2) (.int .i64 t206)) (fun _ hk => hk.1.2) (.int .i64 t207))) (fun _ h_ => h_.1)) (fun _ h_ => h_.1))) hb); replace HO204 := a_ (Kd.R_below (by (with_reducible repeat (first | apply Kd.R_alloc | apply Kd.R_drewN | apply Kd.R_drew)); exact (Kd.R_mono (Kd.R_mono (rF_ (Kd.R_far (p := ⟨gb209, 1, none⟩) (Kd.R_far (p := ⟨gb209, 0, none⟩) (Kd.R_types (Kd.R_types HO204.out BK209.out (by decide)) BK201.out (by decide)) (fun _ hk => hk.1.2) (.int .i64 t206)) (fun _ hk => hk.1.2) (.int .i64 t207))) (fun _ h_ => h_.1)) (fun _ h_ => h_.1))) hb); replace BK201 := a_ (blk_below (g := gb201) (o := .cells #[.slice Ao22 t195.length co22, .int .i64 2, .slice Ao21 y198.length co21] 29 (0, 0)) (by (with_reducible repeat (first | refine blk_drewN ?_ _ | refine blk_drew ?_ | refine blk_alloc ?_ _)); exact (bP_ (bF_ (bF_ (hK_ BK201.out) NB201_209.out) NB201_209.out))) hb); replace BK209 := a_ (blk_below (g := gb209) (o := .cells #[.int .i64 t206, .int .i64 t207] 39 (0, 0)) (by (with_reducible repeat (first | refine blk_drewN ?_ _ | refine blk_drew ?_ | refine blk_alloc ?_ _)); exact (bF_ (bP_ (bP_ (hK_ BK209.out))) NB209_201.out)) hb); replace HB := a_ (below_step hC_ hb); (try clear hb); (try clear hb2); (try clear hk); (try clear hi)) | ((with_reducible refine gate_dst (N := 6) rfl ?_); refine boxE_ 6 #[.int .i64 0, .int .i64 0] 39 ?_; intro gb213 hg w33 hbox hb; replace HO197 := a_ (Kd.N_below (Kd.N_elderB (hN_ HO197.out) gb213 (Nat.le_of_eq hg.symm)) hb); replace HO200 := a_ (Kd.R_below (hR_ HO200.out) hb); replace HO204 := a_ (Kd.R_below (hR_ HO204.out) hb); have BK213 := a_ (hbox); have GW213 := a_ ((gE_ hg : w.heap.size ≤ gb213)); have GE213 := a_ ((gE_ hg : w.heap.size ≤ gb213)); replace HB := a_ (below_step hC_ hb); have NB201_213 := a_ ((bL_ BK201.out hg : gb201 ≠ gb213)); have NB213_201 := a_ ((bG_ BK201.out hg : gb213 ≠ gb201)); replace BK201 := a_ (bB_ BK201.out hb); have NB209_213 := a_ ((bL_ BK209.out hg : gb209 ≠ gb213)); have NB213_209 := a_ ((bG_ BK209.out hg : gb213 ≠ gb209)); replace BK209 := a_ (bB_ BK209.out hb); clear hb hbox hg; have hnb34 := NB213_201.out; have hnc34 := NB201_213.out; have hnb35 := NB213_209.out; have hnc35 := NB209_213.out; obtain ⟨hcz36_0, hcz36_1, hfz36_0, hfz36_1⟩ := bx2_ BK213.out) | ((with_reducible refine gate_store (t := 39) (p := 6) rfl ?_); refine store_event (t := 39) (p := 6) (v := ?vo_w37) (w1 := ((w33.setCell ⟨gb213, 0, none⟩ (.int .i64 t210)).setCell ⟨gb213, 1, none⟩ (.int .i64 t211))) ?hg ?ho ?hn ?hr ?_; (case ho => rfl); (case hg => rfl); (case hn => rfl); (case hr => first | (go_simp; done) | (go_simp; rfl)); intro w37 hw; replace HO197 : Aside0 (Kd.N k33 33 w37 w.heap.size (fun k_ => some k_ ≠ (.slice Ao21 y198.length co21 : Value).ownBlock ∧ some k_ ≠ (v203 : Value).ownBlock ∧ k_ ≠ gb201 ∧ k_ ≠ gb209 ∧ k_ ≠ gb213) (.slice Ao22 t195.length co22) t195) := ⟨(by rw [hw]; exact (by (with_reducible repeat (first | apply Kd.N_alloc | apply Kd.N_drewN | apply Kd.N_drew)); exact Kd.N_mono (nF_ (nF_ (Kd.N_mono HO197.out (fun k_ hk => (⟨hk, hk.2⟩ : _ ∧ k_ ≠ gb213))))) (fun _ hk => ⟨hk.1.1.1.1.1.2, ⟨hk.1.1.1.2, ⟨hk.1.1.1.1.2, ⟨hk.1.1.2, hk.1.2⟩⟩⟩⟩)))⟩; replace HO200 : Aside0 (Kd.R k26 26 w37 w.heap.size (fun _ => True) (.slice Ao21 y198.length co21) y198) := ⟨(by rw [hw]; exact (by (with_reducible repeat (first | apply Kd.R_alloc | apply Kd.R_drewN | apply Kd.R_drew)); exact Kd.R_mono (rF_ (rF_ (Kd.R_types HO200.out BK213.out (by decide)))) (fun _ hk => trivial)))⟩; replace HO204 : Aside0 (Kd.R (Kd.int .i64) 3 w37 w.heap.size (fun _ => True) v203 t202) := ⟨(by rw [hw]; exact (by (with_reducible repeat (first | apply Kd.R_alloc | apply Kd.R_drewN | apply Kd.R_drew)); exact Kd.R_mono (rF_ (rF_ (Kd.R_types HO204.out BK213.out (by decide)))) (fun _ hk => trivial)))⟩; replace BK201 : Aside0 (w37.heap[gb201]? = some (.cells #[.slice Ao22 t195.length co22, .int .i64 2, .slice Ao21 y198.length co21] 29 (0, 0))) := ⟨(by rw [hw]; exact (bF_ (bF_ (hK_ BK201.out) NB201_213.out) NB201_213.out))⟩; replace BK209 : Aside0 (w37.heap[gb209]? = some (.cells #[.int .i64 t206, .int .i64 t207] 39 (0, 0))) := ⟨(by rw [hw]; exact (bF_ (bF_ (hK_ BK209.out) NB209_213.out) NB209_213.out))⟩; replace BK213 : Aside0 (w37.heap[gb213]? = some (.cells #[.int .i64 t210, .int .i64 t211] 39 (0, 0))) := ⟨(by rw [hw]; exact (bP_ (bP_ (hK_ BK213.out))))⟩; replace HB : Aside0 (Below w.heap.size w w37) := ⟨(by rw [hw]; exact hC_)⟩; clear hw; obtain ⟨hcz38_0, hcz38_1, hcz38_2, hfz38_0, hfz38_1, hfz38_2⟩ := bx3_ BK201.out; have p6 : 0 ≤ (0 : Int) := (by omega); have q6 : (0 : Int) < ((y198.length : Int) : Int) := of_decide_eq_true hA_; have qi6 : (0 < y198.length) = True := eq_true (by omega); obtain ⟨go6, co6, eo6, gb6, gl6, cl6, HG6⟩ := Kd.R_form HO200.out (by omega); (first | cases eo6 | (injection eo6 with ea_ en_ ec_; (first | subst ea_ | (injection ea_ with ea_; subst ea_)); subst ec_; clear en_)); have GB6 := a_ gb6; have GG6 := a_ HG6; clear gb6 gl6 HG6; obtain ⟨ce6, hcl6, hM6, hcc6, hfr6⟩ := Kd.R_elem HO200.out z26 (0 : Int) p6 q6; obtain rfl := k26_openM hM6; have hx6_0 : w37.cell? ⟨go6, (0 : Int).toNat * 2, none⟩ = some (.int .i64 ((rd_T26 y198 0).f0)) := hcc6 0 _ rfl; have hx6_1 : w37.cell? ⟨go6, (0 : Int).toNat * 2 + 1, none⟩ = some (.int .i64 ((rd_T26 y198 0).f1)) := hcc6 1 _ rfl; have hf6_0 : w37.frozen? ⟨go6, (0 : Int).toNat * 2, none⟩ = false := hfr6 0; have hf6_1 : w37.frozen? ⟨go6, (0 : Int).toNat * 2 + 1, none⟩ = false := hfr6 1; clear hcl6 hcc6 hfr6 hM6; (try rw [show ((0 : Int)).toNat = 0 from rfl] at hx6_0); (try simp only [Nat.reduceMul, Nat.zero_mul, Nat.zero_add, Nat.reduceAdd] at hx6_0); (try rw [show ((0 : Int)).toNat = 0 from rfl] at hf6_0); (try simp only [Nat.reduceMul, Nat.zero_mul, Nat.zero_add, Nat.reduceAdd] at hf6_0); (try rw [show ((0 : Int)).toNat = 0 from rfl] at hx6_1); (try simp only [Nat.reduceMul, Nat.zero_mul, Nat.zero_add, Nat.reduceAdd] at hx6_1); (try rw [show ((0 : Int)).toNat = 0 from rfl] at hf6_1); (try simp only [Nat.reduceMul, Nat.zero_mul, Nat.zero_add, Nat.reduceAdd] at hf6_1); replace p6 := eq_true p6; replace q6 := eq_true q6; have HX39 := a_ (show Kd.R k26 26 w37 w.heap.size (fun _ => True) (.slice (some ⟨go6, 0, none⟩) y198.length co21) y198 from (hR_ HO200.out)); obtain ⟨ce39, hcl39, hM39, hcc39, hfr39⟩ := Kd.R_elem HX39.out z26 (0 : Int) (by omega) (by have h_ : (0 : Int) < ((y198.length : Int) : Int) := of_decide_eq_true hA_; first | exact h_ | (have e_ := (Kd.R_reads' HO200.out).1; omega) | simpa using h_); obtain rfl := k26_openM hM39; have HP39 := Kd.R_seg HX39.out (0 : Int) (by omega) (by have h_ : (0 : Int) < ((y198.length : Int) : Int) := of_decide_eq_true hA_; first | exact h_ | (have e_ := (Kd.R_reads' HO200.out).1; omega) | simpa using h_) (seg := [.int .i64 0]) (j := 1) hcl39 hcc39 (show 2 ≤ 2 from by decide) (x' := (⟨(rd_T26 y198 0).f0, 0⟩ : S26)) (k26_mkM _ _ _ (⟨(rd_T26 y198 0).f0, 0⟩ : S26) ) (fun _ hk => hk); have hx39_1 := hcc39 1 _ rfl; (try simp only [show (k26).sz = 2 from rfl, Nat.mul_one, Nat.add_zero] at hx39_1); (try rw [show ((0 : Int)).toNat = 0 from rfl] at hx39_1); (try simp only [Nat.reduceMul, Nat.zero_mul, Nat.zero_add, Nat.reduceAdd] at hx39_1); have hf39_1 := hfr39 1; (try simp only [show (k26).sz = 2 from rfl, Nat.mul_one, Nat.add_zero] at hf39_1); (try rw [show ((0 : Int)).toNat = 0 from rfl] at hf39_1); (try simp only [Nat.reduceMul, Nat.zero_mul, Nat.zero_add, Nat.reduceAdd] at hf39_1); clear hcl39 hcc39 hfr39 hM39) | ((with_reducible refine gate_store (t := 3) (p := 34) rfl ?_); refine store_event (t := 3) (p := 34) (v := ?vo_w40) (w1 := (w37.setCell ⟨go6, 1, none⟩ (.int .i64 0))) ?hg ?ho ?hn ?hr ?_; (case ho => rfl); (case hg => rfl); (case hn => rfl); (case hr => first | (go_simp; done) | (go_simp; rfl)); intro w40 hw; have hg : w37.grownBy w40 (some go6) := (by rw [hw]; exact HP39.2); have hp_ : Kd.R k26 26 w40 w.heap.size (fun _ => True) (.slice (some ⟨go6, 0, none⟩) y198.length co21) y214 := (by rw [hw, Ny214.out]; exact HP39.1); clear HP39; replace HO197 := a_ (Kd.N_afterv (v := (.slice (some ⟨go6, 0, none⟩) y198.length co21)) (v1 := (.slice (some ⟨go6, 0, none⟩) y198.length co21)) (ok := (fun k_ => some k_ ≠ (v203 : Value).ownBlock ∧ k_ ≠ gb201 ∧ k_ ≠ gb209 ∧ k_ ≠ gb213)) (by (with_reducible repeat (first | apply Kd.N_alloc | apply Kd.N_drewN | apply Kd.N_drew)); exact Kd.N_mono HO197.out (fun _ hk => ⟨⟨hk.2.1, ⟨hk.2.2.1, ⟨hk.2.2.2.1, hk.2.2.2.2⟩⟩⟩, hk.1⟩)) hg (.inl rfl)); replace BK201 := a_ (blk_grown (hK_ BK201.out) hg (Kd.R_ne HO200.out BK201.out (by decide))); replace HO204 := a_ (Kd.R_over' (v := (.slice (some ⟨go6, 0, none⟩) y198.length co21)) (hR_ HO204.out) (Kd.R_typed HO200.out) (by decide) hg); replace BK209 := a_ (blk_grown (hK_ BK209.out) hg (Kd.R_ne HO200.out BK209.out (by decide))); replace BK213 := a_ (blk_grown (hK_ BK213.out) hg (Kd.R_ne HO200.out BK213.out (by decide))); replace HO200 := a_ (hp_); replace HB := a_ ((by rw [hw]; exact below_set (HB.out) GB6.out : Below w.heap.size w w40)); clear hg hw hp_; obtain ⟨hcz41_0, hcz41_1, hcz41_2, hfz41_0, hfz41_1, hfz41_2⟩ := bx3_ BK201.out) | ((with_reducible refine gate_callee (f := 9) rfl ?_); refine goesL_ (some 37) rfl rfl Tryd.func9 (by kernel_rfl) rfl #[.agg #[.slice Ao22 t195.length co22, .int .i64 2, .slice (some ⟨go6, 0, none⟩) y214.length co21]] rfl (by (try simp only [List.map_toArray, List.map_cons, List.map_nil]); first | done | (rw [show y214.length = y198.length from (Kd.R_reads' HO200.out).1.symm] <;> rfl) | rfl | (simp only [List.length_drop, List.length_take]; rfl)) ?_; (with_reducible refine (next_Marks.calls k _ _ t195 2 _ _ y214 t215 t218 _ ?side1 ?side2 ?side3 ?side4 A7.out (by first | exact hG | exact GOK.below hG hC_)).mono ?_); (case side1 => repeat (first | exact (Kd.N_reads' HO197.out).2.2 | (with_reducible refine Kd.C_alloc ?_ _) | (with_reducible refine Kd.C_drewN ?_ _) | (with_reducible refine Kd.C_drew ?_))); (case side2 => exact (Kd.N_reads' HO197.out).2.1); (case side3 => exact cC_ (Kd.R_reads' HO200.out).2.2); (case side4 => rw [show y214.length = y198.length from (Kd.R_reads' HO200.out).1.symm]; exact (Kd.R_reads' HO200.out).2.1); rintro e w42 ⟨v216, rfl, ho0, hb⟩; refine ⟨_, rfl, ?_⟩; replace HO197 := a_ (Kd.N_elder' (hN_ HO197.out) (Kd.R_base ho0) hb); replace HO200 := a_ (Kd.R_below (hR_ HO200.out) hb); have HO217 := a_ (Kd.R_lower (Kd.R_new' ho0 (Kd.R_lt (hR_ HO204.out))) (below_size hC_)); replace HO204 := a_ (Kd.R_elder' (hR_ HO204.out) (Kd.R_base ho0) hb); replace BK201 := a_ (bB_ BK201.out hb); replace BK209 := a_ (bB_ BK209.out hb); replace BK213 := a_ (bB_ BK213.out hb); replace HB := a_ (below_step hC_ hb); (try clear hb); (try clear hb2); (try clear hk); (try clear hi); (try clear ho0)) | ((with_reducible refine gate_dst (N := 41) rfl ?_); refine Kd.R_lit (Kd.int .i64) _ 3 ?hg (N := 41) ?hd (xs := ([2, 1, 0, 0, 0] : List Int)) (inner := [.int .i64 2, .int .i64 1, .int .i64 0, .int .i64 0, .int .i64 0]) (ok := fun _ => True) (okp := fun _ => True) ?hr ?hp (fun _ hk => hk) trivial (Below.refl _ _) (Nat.le_refl _) (by simp) ?_; (case hd => rfl); (case hg => rfl); (case hr => first | (go_simp; done) | (go_simp; rfl)); (case hp => exact (Reps.one (show Kd.M (Kd.int .i64) _ _ _ 2 [.int .i64 2] from rfl) (Reps.one (show Kd.M (Kd.int .i64) _ _ _ 1 [.int .i64 1] from rfl) (Reps.one (show Kd.M (Kd.int .i64) _ _ _ 0 [.int .i64 0] from rfl) (Reps.one (show Kd.M (Kd.int .i64) _ _ _ 0 [.int .i64 0] from rfl) (Reps.one (show Kd.M (Kd.int .i64) _ _ _ 0 [.int .i64 0] from rfl) (Reps.none _ _))))))); intro v220 w43 ho44 hb hg_ hnew_; clear hg_ hnew_; (first | rw [← Ny219.out] at ho44 | (simp only [Int.reduceToNat] at ho44; rw [← Ny219.out] at ho44)); replace HO197 := a_ (Kd.N_elder' (hN_ HO197.out) (Kd.R_base ho44) hb); replace HO200 := a_ (Kd.R_below (hR_ HO200.out) hb); have HO221 := a_ (Kd.R_lower (Kd.R_new' (Kd.R_new' ho44 (Kd.R_lt (hR_ HO204.out))) (Kd.R_lt (hR_ HO217.out))) (below_size hC_)); replace HO204 := a_ (Kd.R_elder' (hR_ HO204.out) (Kd.R_base ho44) hb); replace HO217 := a_ (Kd.R_elder' (hR_ HO217.out) (Kd.R_base ho44) hb); replace BK201 := a_ (bB_ BK201.out hb); replace BK209 := a_ (bB_ BK209.out hb); replace BK213 := a_ (bB_ BK213.out hb); replace HB := a_ (below_step hC_ hb); clear hb ho44; obtain ⟨Ao45, co45, eo45⟩ := Kd.R_slice HO204.out; subst eo45; obtain ⟨Ao46, co46, eo46⟩ := Kd.R_slice HO221.out; subst eo46) | ((with_reducible refine gate_callee (f := 13) rfl ?_); refine goesL_ (some 42) rfl rfl Tryd.func13 (by kernel_rfl) rfl #[.slice Ao45 t202.length co45, .slice Ao46 y219.length co46] rfl hL_ ?_; (with_reducible refine (sleuthlaw0_SameInts.calls k _ _ t202 _ _ y219 true _ ?side1 ?side2 ?side3 ?side4 A8.out).mono ?_); (case side1 => exact cC_ (Kd.R_reads' HO204.out).2.2); (case side2 => exact (Kd.R_reads' HO204.out).2.1); (case side3 => exact cC_ (Kd.R_reads' HO221.out).2.2); (case side4 => exact (Kd.R_reads' HO221.out).2.1); rintro e w' ⟨rfl, ⟨nd, rfl⟩⟩; refine ⟨_, rfl, ?_⟩) | (go_at_call 11; (with_reducible refine (sleuthlaw0_Num.calls t205 t223 _ A10.out).mono ?_); rintro e w' ⟨rfl, ⟨nd, rfl⟩⟩; obtain ⟨hcz47_0, hcz47_1, hfz47_0, hfz47_1⟩ := bx2_ BK209.out) | (go_at_call 11; (with_reducible refine (sleuthlaw0_Num.calls t208 t224 _ A13.out).mono ?_); rintro e w' ⟨rfl, ⟨nd, rfl⟩⟩) | (go_at_call 11; (with_reducible refine (sleuthlaw0_Num.calls t212 t225 _ A15.out).mono ?_); rintro e w' ⟨rfl, ⟨nd, rfl⟩⟩) | (go_at_call 11; (with_reducible refine (sleuthlaw0_Num.calls t218 t226 _ A17.out).mono ?_); rintro e w' ⟨rfl, ⟨nd, rfl⟩⟩))
 go_ret
 exact ⟨hV_, hC_⟩
end Go.Proofs.YtgokcaccamfgfaaDoor.G
end
section
/- What the laws of package next share. -/
namespace Go.Proofs.YtgokcaccamfgfaaDoor.G
open Go.RowKit Go.Proofs.YtgokcaccamfgfaaDoorW.PrintWords Go.Proofs.YtgokcaccamfgfaaDoorW.PrintLast Go.Proofs.YtgokcaccamfgfaaDoorW.PrintMore
set_option linter.unusedVariables false
set_option linter.unusedSimpArgs false
def nextSome : List Nd := [(⟨0, (-1), ([] : List ByteArray), (⟨#[57]⟩ : ByteArray)⟩ : Nd), (⟨1, 0, (([(⟨#[64, 55, 40, 95, 32, 52, 41]⟩ : ByteArray), (⟨#[53]⟩ : ByteArray)] : List ByteArray)), (⟨#[57]⟩ : ByteArray)⟩ : Nd), (⟨2, 0, ([] : List ByteArray), (⟨#[33]⟩ : ByteArray)⟩ : Nd), (⟨1, 1, (([(⟨#[49]⟩ : ByteArray), (⟨#[95]⟩ : ByteArray)] : List ByteArray)), (⟨#[95]⟩ : ByteArray)⟩ : Nd), (⟨1, 2, (([(⟨#[49]⟩ : ByteArray), (⟨#[95]⟩ : ByteArray)] : List ByteArray)), (⟨#[95]⟩ : ByteArray)⟩ : Nd)]
theorem nextSome_eq : sleuthlaw20_some.f = some nextSome := rfl
theorem nextSome_may : mayT nextSome = true := by kernel_rfl
theorem nextAwake_ev : Ev (fun k => sleuthlaw20_awake.f k) true := by
  unfold sleuthlaw20_awake.f
  simp only [nextSome_eq, Option.bind_some]
  have l2 : (0 : Int) < (([(⟨0, 2⟩ : An), ⟨1, 1⟩] : List An).length : Int) := by decide
  refine Ev.bind (marks_ev nextSome 0 [⟨0, 2⟩, ⟨1, 1⟩]) (Ev.bind (step_ev nextSome 0 [⟨0, 2⟩, ⟨1, 1⟩]) (Ev.bind (step_ev nextSome 2 [⟨0, 2⟩, ⟨1, 1⟩]) ?_))
  simp only [if_pos l2]
  refine Ev.bind (marks_ev nextSome 2 [⟨0, 0⟩, ⟨1, 1⟩]) ?_
  have e1 : marksF nextSome [⟨0, 2⟩, ⟨1, 1⟩] = ([2, 1, 0, 0, 0], 0) := by kernel_rfl
  have e2 : stepF nextSome 0 [⟨0, 2⟩, ⟨1, 1⟩] = (0, 2, 0) := by kernel_rfl
  have e3 : stepF nextSome 2 [⟨0, 2⟩, ⟨1, 1⟩] = (0, 0, 2000) := by kernel_rfl
  have e4 : marksF nextSome [⟨0, 0⟩, ⟨1, 1⟩] = ([], 2000) := by kernel_rfl
  rw [e1, e2, e3, e4]
  refine Ev.bind (sameInts_ev [2, 1, 0, 0, 0] (by decide)) ?_
  simp only [sleuthlaw0_Num.f, Option.bind_some, if_pos, BEq.rfl, Bool.and_self]
  exact Ev.now _
end Go.Proofs.YtgokcaccamfgfaaDoor.G
end
