/- Parts of this proof, one behind the other: G27, G28, G29, G30, G31. -/
import Derived.Test.YtgokcaccamfgfaaDoorG0
import Derived.Test.YtgokcaccamfgfaaDoorU8
import Derived.Test.YtgokcaccamfgfaaDoorU7
section
-- Laid by the session's own driver gp.py over the kit's printer. Not trusted: Lean checks it.
namespace Go.Proofs.YtgokcaccamfgfaaDoor.G
open Go.RowKit Go.Proofs.YtgokcaccamfgfaaDoorW.PrintWords Go.Proofs.YtgokcaccamfgfaaDoorW.PrintLast Go.Proofs.YtgokcaccamfgfaaDoorW.PrintMore
attribute [local go_sem] max2_int min2_int max_two min_two max_three min_three max_four min_four   -- for this text's walks alone
set_option linter.unusedVariables false
set_option linter.unusedSimpArgs false

/-! ### half_Ask: function 28, given -/
def openB (d : List Bool) (ms : List Int) (i : Int) : Bool := rdOf false d i && (rd ms i == 0)
def oneB (d : List Bool) (ms : List Int) (i : Int) : Int := if openB d ms i = true then 1 else 0
def szH (ns : List S33) (d : List Bool) (ms : List Int) : List Int := sizesP ns (oneB d ms)
def offW (x m : Int) : Int := mx (wrap64 (wrap64 (2 * x) - m)) (wrap64 (m - wrap64 (2 * x)))
theorem off_calls (x m : Int) (W : World) : Calls Tryd.prog 47 #[.int .i64 x, .int .i64 m] W fun e W' => e = .returned (.int .i64 (offW x m)) ∧ W' = W := by
  unfold offW mx
  by_cases c : wrap64 (wrap64 (2 * x) - m) < wrap64 (m - wrap64 (2 * x))
  case pos =>
    rw [if_pos c]
    go_enter Tryd.func47, Tryd.ntmps47
    go_wp2
    go_ret
    exact ⟨rfl, rfl⟩
  rw [if_neg c]
  go_enter Tryd.func47, Tryd.ntmps47
  go_wp2
  go_ret
  exact ⟨rfl, rfl⟩
def bestH (sz : List Int) (d : List Bool) (ms : List Int) (m : Int) : Nat → Int
  | 0 => -1
  | n + 1 => if openB d ms (n : Int) = true ∧ (bestH sz d ms m n < 0 ∨ offW (rd sz (n : Int)) m < offW (rd sz (bestH sz d ms m n)) m) then (n : Int) else bestH sz d ms m n
theorem bestH_range (sz : List Int) (d : List Bool) (ms : List Int) (m : Int) : ∀ n : Nat, -1 ≤ bestH sz d ms m n ∧ bestH sz d ms m n < (n : Int)
  | 0 => ⟨Int.le_refl _, by show (-1 : Int) < 0; omega⟩
  | n + 1 => by
    have := bestH_range sz d ms m n
    rw [bestH]
    split <;> omega
def parB (ns : List S33) : Bool := (List.range ns.length).all fun i => decide ((0 ≤ (rd_T33 ns (i : Int)).f1 ∧ (rd_T33 ns (i : Int)).f1 < (i : Int)) ∨ ((i : Int) = 0 ∧ (rd_T33 ns (i : Int)).f1 = -1))
theorem parB_at {ns : List S33} (h : parB ns = true) (i : Int) (h0 : 0 ≤ i) (h1 : i < (ns.length : Int)) : ((0 ≤ (rd_T33 ns i).f1 ∧ (rd_T33 ns i).f1 < i) ∨ (i = 0 ∧ (rd_T33 ns i).f1 = -1)) := by
  have := of_decide_eq_true (List.all_eq_true.1 h i.toNat (List.mem_range.2 (by omega)))
  rw [show ((i.toNat : Nat) : Int) = i by omega] at this
  exact this
def half_Ask.f (k : Nat) (l0 : List S33) (l1 : List Int) : Option (Int × Int) :=
  if 0 < l0.length ∧ l0.length ≤ 512 ∧ l1.length = l0.length ∧ parB l0 = true then
    (if rd l1 0 = 2 then (half_last.f k l1).bind fun w => (half_doubts.f k l0 l1 w).bind fun d =>
      if 0 ≤ w ∧ w < (l0.length : Int) ∧ d.length = l0.length then
        (if bestH (szH l0 d l1) d l1 (rd (szH l0 d l1) w) l0.length < 0 then top_Bug.f l0 l1 w else some (0, bestH (szH l0 d l1) d l1 (rd (szH l0 d l1) w) l0.length)) else none
    else top_Ask.f k l0 l1) else none
theorem half_Ask.mono : ∀ a0 a1 k, LeO (half_Ask.f k a0 a1) (half_Ask.f (k + 1) a0 a1) := by
  intro a0 a1 k
  unfold half_Ask.f
  refine LeO.ite (LeO.ite (LeO.bind (half_last.mono _ _) (fun _ => LeO.bind (half_doubts.mono _ _ _ _) (fun _ => LeO.refl _))) (top_Ask.mono _ _ _)) (LeO.none _)
theorem open_calls (W : World) (Bd Bm : Nat) (d : List Bool) (ms : List Int) (Ad : Option Addr) (cd : Nat) (A1 : Option Addr) (c1 : Nat) (hd : W.cell? ⟨Bd, 0, none⟩ = some (.slice Ad d.length cd)) (hm : W.cell? ⟨Bm, 0, none⟩ = some (.slice A1 ms.length c1))
    (hD : Kd.C Kd.bool W Ad d.length d) (hM : Kd.C (Kd.int .i64) W A1 ms.length ms) (i : Int) (h0 : 0 ≤ i) (h1 : i < (d.length : Int)) (h2 : i < (ms.length : Int)) :
    Calls Tryd.prog 44 #[.int .i64 i, .pointer (some ⟨Bd, 0, none⟩), .pointer (some ⟨Bm, 0, none⟩)] W fun e W' => e = .returned (.bool (openB d ms i)) ∧ W' = W := by
  obtain ⟨ad, e0, g0⟩ := Kd.at_bool hD i h0 h1
  cases e0
  obtain ⟨am, e1, g1⟩ := Kd.at_int hM i h0 h2
  cases e1
  unfold openB
  clear hD hM
  replace h0 := eq_true h0
  replace h1 := eq_true h1
  replace h2 := eq_true h2
  cases hb : rdOf false d i with
  | true =>
    rw [hb] at g0
    rw [Bool.true_and]
    go_enter Tryd.func44, Tryd.ntmps44
    go_wp2
    go_ret
    exact ⟨rfl, rfl⟩
  | false =>
    rw [hb] at g0
    rw [Bool.false_and]
    go_enter Tryd.func44, Tryd.ntmps44
    go_wp2
    go_ret
    exact ⟨rfl, rfl⟩
theorem one_calls (W : World) (Bf Bd Bm : Nat) (d : List Bool) (ms : List Int) (Ad : Option Addr) (cd : Nat) (A1 : Option Addr) (c1 : Nat) (hf : W.cell? ⟨Bf, 0, none⟩ = some (.func (.func 44) #[] #[.pointer (some ⟨Bd, 0, none⟩), .pointer (some ⟨Bm, 0, none⟩)])) (hd : W.cell? ⟨Bd, 0, none⟩ = some (.slice Ad d.length cd)) (hm : W.cell? ⟨Bm, 0, none⟩ = some (.slice A1 ms.length c1))
    (hD : Kd.C Kd.bool W Ad d.length d) (hM : Kd.C (Kd.int .i64) W A1 ms.length ms) (i : Int) (h0 : 0 ≤ i) (h1 : i < (d.length : Int)) (h2 : i < (ms.length : Int)) :
    Calls Tryd.prog 46 #[.int .i64 i, .pointer (some ⟨Bf, 0, none⟩)] W fun e W' => e = .returned (.int .i64 (oneB d ms i)) ∧ ∃ m, W' = W.drewN m := by
  have h : Calls Tryd.prog 46 #[.int .i64 i, .pointer (some ⟨Bf, 0, none⟩)] W fun e W' => e = .returned (.int .i64 (oneB d ms i)) ∧ W' = W := by
    have HO := Aside0.mk (open_calls W Bd Bm d ms Ad cd A1 c1 hd hm hD hM i h0 h1 h2)
    clear hd hm hD hM
    unfold oneB
    cases ho : openB d ms i with
    | true =>
      rw [ho] at HO
      rw [if_pos rfl]
      go_enter Tryd.func46, Tryd.ntmps46
      go_wp2_with (first
        | (go_at_call 44; refine HO.out.mono ?_; rintro e w5 ⟨rfl, rfl⟩))
      go_ret
      exact ⟨rfl, rfl⟩
    | false =>
      rw [ho] at HO
      rw [if_neg Bool.false_ne_true]
      go_enter Tryd.func46, Tryd.ntmps46
      go_wp2_with (first
        | (go_at_call 44; refine HO.out.mono ?_; rintro e w5 ⟨rfl, rfl⟩))
      go_ret
      exact ⟨rfl, rfl⟩
  exact h.mono fun e W' ⟨h1, h2⟩ => ⟨h1, 0, h2⟩
theorem two_boxes (w6 : World) (z1 z2 s f : Value) (t1 t2 : TypeId) : ∀ W7, W7 = ((((w6.alloc (.cells #[z1] t1)).setCell ⟨w6.heap.size, 0, none⟩ s).alloc (.cells #[z2] t2)).setCell ⟨w6.heap.size + 1, 0, none⟩ f) →
    Boxed W7 w6.heap.size t1 s ∧ Boxed W7 (w6.heap.size + 1) t2 f ∧ Below w6.heap.size w6 W7 ∧ W7.heap.size = w6.heap.size + 2 := by
  rintro _ rfl
  have b1 := (Boxed.new w6 t1 z1).set s
  have sz : ∀ (W : World) (p : Addr) (v : Value), (W.setCell p v).heap.size = W.heap.size := fun W p v => by show (W.heap.modify _ _).size = _; rw [Array.size_modify]
  have e1 : ((w6.alloc (.cells #[z1] t1)).setCell ⟨w6.heap.size, 0, none⟩ s).heap.size = w6.heap.size + 1 := by rw [sz]; simp
  have b2 := Boxed.new ((w6.alloc (.cells #[z1] t1)).setCell ⟨w6.heap.size, 0, none⟩ s) t2 z2
  rw [e1] at b2
  have hB : Below w6.heap.size w6 ((w6.alloc (.cells #[z1] t1)).setCell ⟨w6.heap.size, 0, none⟩ s) := ((Below.refl _ w6).alloc (Nat.le_refl _) _).setCell (p := ⟨w6.heap.size, 0, none⟩) (Nat.le_refl _) _
  refine ⟨(b1.alloc _).other (by omega) _, b2.set _, (hB.alloc (by omega) _).setCell (p := ⟨w6.heap.size + 1, 0, none⟩) (Nat.le_succ _) _, ?_⟩
  rw [sz, World.size_alloc, e1]
def Half8 (w : World) (am : Addr) (c1 : Nat) (l1 : List Int) (Ad : Option Addr) (cd : Nat) (d : List Bool) (Bd Bf : Nat) (w8 : World) : Prop :=
  (Below w.heap.size w w8 ∧ Boxed w8 w.heap.size 34 (.slice (some am) l1.length c1) ∧ Boxed2 w8 (w.heap.size + 1) 39 (.int .i64 0) (.int .i64 0)) ∧
  (Boxed w8 Bd 75 (.slice Ad d.length cd) ∧ Boxed w8 Bf 53 (.func (.func 44) #[] #[.pointer (some ⟨Bd, 0, none⟩), .pointer (some ⟨w.heap.size, 0, none⟩)])) ∧ Kd.C Kd.bool w8 Ad d.length d ∧ Kd.C (Kd.int .i64) w8 (some am) l1.length l1
theorem half_sizes (n : Nat) (hn : 2 ≤ n) (w W2 w6 W6a W7 : World) (nd : Nat) (A0 : Option Addr) (c0 : Nat) (l0 : List (S33)) (am : Addr) (c1 : Nat) (l1 : List Int) (Ad : Option Addr) (cd : Nat) (d : List Bool)
    (hr0 : Kd.C k33 w A0 l0.length l0) (hr1 : Kd.C (Kd.int .i64) w (some am) l1.length l1) (h512 : l0.length ≤ 512) (hp : parB l0 = true) (hl : l1.length = l0.length) (hdl : d.length = l0.length)
    (h2 : Below w.heap.size w W2 ∧ Boxed W2 w.heap.size 34 (.slice (some am) l1.length c1) ∧ Boxed2 W2 (w.heap.size + 1) 39 (.int .i64 0) (.int .i64 0))
    (hR6 : Kd.R Kd.bool 4 w6 (W2.drewN nd).heap.size (fun _ => True) (.slice Ad d.length cd) d) (hb6 : Below (W2.drewN nd).heap.size (W2.drewN nd) w6)
    (h6a : (w6.alloc (.cells #[.slice none 0 0] 75)).setCell ⟨w6.heap.size, 0, none⟩ (.slice Ad d.length cd) = W6a)
    (h7 : W6a.alloc (.cells #[.func (.func 44) #[] #[.pointer (some ⟨w6.heap.size, 0, none⟩), .pointer (some ⟨w.heap.size, 0, none⟩)]] 53) = W7) :
    CallsIn Fence.wide n Tryd.prog 45 #[.slice A0 l0.length c0, .func (.func 46) #[] #[.pointer (some ⟨W6a.heap.size, 0, none⟩)]] W7 fun e w8 =>
      ∃ Az cz, e = .returned (.slice Az l0.length cz) ∧ Kd.C (Kd.int .i64) w8 Az l0.length (szH l0 d l1) ∧ Half8 w am c1 l1 Ad cd d w6.heap.size W6a.heap.size w8 := by
  have sz : ∀ (W : World) (p : Addr) (v : Value), (W.setCell p v).heap.size = W.heap.size := fun W p v => by show (W.heap.modify _ _).size = _; rw [Array.size_modify]
  have e6 : W6a.heap.size = w6.heap.size + 1 := by rw [← h6a, sz]; simp
  have e7 : W7.heap.size = w6.heap.size + 2 := by rw [← h7, World.size_alloc, e6]
  have s2 := h2.2.2.lt
  have s6 : W2.heap.size ≤ w6.heap.size := hb6.size
  have B6a : Below w6.heap.size w6 W6a := by rw [← h6a]; exact ((Below.refl _ w6).alloc (Nat.le_refl _) _).setCell (p := ⟨w6.heap.size, 0, none⟩) (Nat.le_refl _) _
  have B7 : Below w6.heap.size w6 W7 := by rw [← h7]; exact B6a.alloc (by omega) _
  have bd6 : Boxed W6a w6.heap.size 75 (.slice Ad d.length cd) := by rw [← h6a]; exact (Boxed.new w6 _ _).set _
  have bd : Boxed W7 w6.heap.size 75 (.slice Ad d.length cd) := by rw [← h7]; exact bd6.alloc _
  have bf : Boxed W7 W6a.heap.size 53 (.func (.func 44) #[] #[.pointer (some ⟨w6.heap.size, 0, none⟩), .pointer (some ⟨w.heap.size, 0, none⟩)]) := by rw [← h7]; exact Boxed.new W6a _ _
  have hB6 : Below w.heap.size w w6 := (below_dn h2.1 nd).trans (hb6.mono h2.1.size)
  have hB7 : Below w.heap.size w W7 := hB6.trans (B7.mono hB6.size)
  have m6 : Boxed w6 w.heap.size 34 (.slice (some am) l1.length c1) := (hb6.block _ (by show w.heap.size < W2.heap.size; omega)).trans h2.2.1
  have r6 : Boxed2 w6 (w.heap.size + 1) 39 (.int .i64 0) (.int .i64 0) := (hb6.block _ (by show w.heap.size + 1 < W2.heap.size; omega)).trans h2.2.2
  have m7 : Boxed W7 w.heap.size 34 (.slice (some am) l1.length c1) := (B7.block _ (by omega)).trans m6
  have r7 : Boxed2 W7 (w.heap.size + 1) 39 (.int .i64 0) (.int .i64 0) := (B7.block _ (by omega)).trans r6
  have d7 : Kd.C Kd.bool W7 Ad d.length d := Kd.C_below (Kd.R_reads' hR6).2.2 B7
  have c7 : Kd.C (Kd.int .i64) W7 (some am) l1.length l1 := Kd.C_below hr1 hB7
  refine (tree_Sizes.in_ n hn 46 #[.pointer (some ⟨W6a.heap.size, 0, none⟩)] (enters_of Tryd.func46 (by kernel_rfl) rfl) (oneB d l1) A0 c0 l0 h512 (parB_at hp) W7 (Kd.C_below hr0 hB7)
    (fun i W h0 h1 hb => one_calls W W6a.heap.size w6.heap.size w.heap.size d l1 Ad cd (some am) c1 (Boxed.cell (show Boxed W W6a.heap.size _ _ from (hb.block _ (by omega)).trans bf)) (Boxed.cell (show Boxed W w6.heap.size _ _ from (hb.block _ (by omega)).trans bd)) (Boxed.cell (show Boxed W w.heap.size _ _ from (hb.block _ (by omega)).trans m7)) (Kd.C_below d7 hb) (Kd.C_below c7 hb) i h0 (by omega) (by omega))).mono ?_
  rintro e w8 ⟨v, rfl, hr, hb⟩
  obtain ⟨Az, cz, rfl, hlz, hC⟩ := Kd.R_reads hr
  have hlen : (szH l0 d l1).length = l0.length := by show (sizesP l0 (oneB d l1)).length = _; unfold sizesP; rw [sizesL_len, List.length_replicate]
  have hC' : Kd.C (Kd.int .i64) w8 Az (szH l0 d l1).length (szH l0 d l1) := hC
  rw [hlen] at hC'
  have e9 : (sizesP l0 (oneB d l1)).length = l0.length := hlen
  refine ⟨Az, cz, by rw [e9], hC', ⟨hB7.trans (hb.mono hB7.size), (hb.block _ (by omega)).trans m7, (hb.block _ (by omega)).trans r7⟩, ⟨(hb.block _ (by omega)).trans bd, (hb.block _ (by omega)).trans bf⟩, Kd.C_below d7 hb, Kd.C_below c7 hb⟩
theorem run_store_func (P : Program) (w : World) (a : Addr) (m : Mode) (f : Fn) (x y : Array Value) : (store a (.func f x y) m).run P w = stored P w a (.func f x y) m := run_store P w a _ m rfl
section
attribute [local go_sem] Oper.semAt_some run_store_func
set_option maxHeartbeats 8000000 in
set_option maxRecDepth 100000 in
theorem half_Ask.inW (n : Nat) (hn : 4 ≤ n) (k : Nat) (A0 : Option Addr) (c0 : Nat) (l0 : List (S33)) (A1 : Option Addr) (c1 : Nat) (l1 : List Int) (wg : Int) (d : List Bool) (r1 r2 : Int) (w : World) (hr0 : Kd.C k33 w A0 l0.length l0) (hc0 : l0.length ≤ c0) (hr1 : Kd.C (Kd.int .i64) w A1 l1.length l1) (hc1 : l1.length ≤ c1)
    (h0 : rd l1 0 = 2) (hn0 : 0 < l0.length) (h512 : l0.length ≤ 512) (hl : l1.length = l0.length) (hp : parB l0 = true) (hL : half_last.f k l1 = some wg) (hD : half_doubts.f k l0 l1 wg = some d) (hw0 : 0 ≤ wg) (hw1 : wg < (l0.length : Int)) (hdl : d.length = l0.length)
    (hr : (if bestH (szH l0 d l1) d l1 (rd (szH l0 d l1) wg) l0.length < 0 then top_Bug.f l0 l1 wg else some (0, bestH (szH l0 d l1) d l1 (rd (szH l0 d l1) wg) l0.length)) = some (r1, r2)) :
    CallsIn Fence.wide n Tryd.prog 28 #[.slice A0 l0.length c0, .slice A1 l1.length c1] w fun e w' => e = .returned (.agg #[.int .i64 r1, .int .i64 r2]) ∧ Below w.heap.size w w' := by
  have hn1 : 1 ≤ n := by omega
  obtain ⟨am, e, g⟩ := Kd.at_int hr1 0 (by omega) (by omega)
  cases e
  have HR0 := Aside0.mk hr0
  have HC0 := Aside0.mk hc0
  have HR1 := Aside0.mk hr1
  have HC1 := Aside0.mk hc1
  have HL := Aside0.mk hL
  have HD := Aside0.mk hD
  have HRR := Aside0.mk hr
  have HM := Aside0.mk (And.intro hw0 (And.intro hw1 (And.intro hl (And.intro h512 (And.intro hdl (And.intro hn0 hp))))))
  have hmix : Tryd.prog.follows .mixedOrders = true := by kernel_rfl
  have hu := Tryd.underlying39
  have hB2 : Below w.heap.size w ((w.alloc (.cells #[.slice (some am) l1.length c1] 34)).alloc (.cells #[.int .i64 0, .int .i64 0] 39)) := ((Below.refl _ w).alloc (Nat.le_refl _) _).alloc (by simp) _
  have bx0 := ((Boxed.new w 34 (.slice (some am) l1.length c1)).alloc (.cells #[.int .i64 0, .int .i64 0] 39))
  have bx1 := Boxed2.new (w.alloc (.cells #[.slice (some am) l1.length c1] 34)) 39 (.int .i64 0) (.int .i64 0)
  simp only [World.size_alloc] at bx1
  have g1 := (hB2.cell (World.block_lt_of_cell? w _ g)).trans g
  rw [h0] at g1
  have cb := bx0.cell
  have HB2 := Aside0.mk (And.intro hB2 (And.intro bx0 bx1))
  have hpos : ((0 : Int) < (l1.length : Int)) = True := eq_true (by omega)
  have hposn : (0 < l1.length) = True := eq_true (by omega)
  clear hr0 hc0 hr1 hc1 hL hD hr hw0 hw1 hl h512 hdl hn0 hp g h0 bx0 bx1 hB2
  obtain ⟨W2, hW2⟩ : ∃ W2, (w.alloc (.cells #[.slice (some am) l1.length c1] 34)).alloc (.cells #[.int .i64 0, .int .i64 0] 39) = W2 := ⟨_, rfl⟩
  rw [hW2] at g1 cb HB2
  rw [show am.add (Int.toNat 0) = am from by cases am; rfl] at g1
  refine callsIn_of_wp Tryd.func28 rfl trivial ?_ rfl
  simp only [Tryd.ntmps28, List.size_toArray, List.length_cons, List.length_nil, Nat.reduceAdd, Nat.reduceSub, Array.replicate_succ, Array.replicate_zero, List.push_toArray, List.append_toArray, List.nil_append, List.cons_append]
  have ff1 : Fence.wide.fn 42 := trivial
  have ff2 : Fence.wide.fn 43 := trivial
  have ff3 : Fence.wide.fn 45 := trivial
  have ff4 : Fence.wide.fn 44 := trivial
  have ff5 : Fence.wide.fn 47 := trivial
  have ff6 : Fence.wide.fn 48 := trivial
  have ls2 : w.heap.size + 1 < W2.heap.size := HB2.out.2.2.lt
  have LS2 := Aside0.mk ls2
  clear ls2
  gi_wp2_with (first
    | (gi_at_call 42; refine ((callsIn_wide (n := n - 1)).2 (half_last.calls k _ _ l1 wg _ (Kd.C_below HR1.out HB2.out.1) HC1.out HL.out)).mono ?_; rintro e w5 ⟨rfl, ⟨nd, rfl⟩⟩; have cb5 : (W2.drewN nd).cell? ⟨w.heap.size, 0, none⟩ = some (.slice (some am) l1.length c1) := HB2.out.2.1.cell)
    | (gi_at_call 43; refine ((callsIn_wide (n := n - 1)).2 (half_doubts.calls k _ _ l0 _ _ l1 wg d _ (Kd.C_below HR0.out (below_dn HB2.out.1 _)) HC0.out (Kd.C_below HR1.out (below_dn HB2.out.1 _)) HC1.out HD.out)).mono ?_; rintro e w6 ⟨v6, rfl, hR6, hb6⟩; obtain ⟨Ad, cd, e6⟩ := Kd.R_slice hR6; subst e6; have cb6 : w6.cell? ⟨w.heap.size, 0, none⟩ = some (.slice (some am) l1.length c1) := (hb6.cell (p := ⟨w.heap.size, 0, none⟩) (Nat.lt_of_succ_lt LS2.out)).trans HB2.out.2.1.cell; have HX6 := Aside0.mk (And.intro hR6 hb6); clear hR6 hb6; obtain ⟨W6a, hW6a⟩ : ∃ W6a, (w6.alloc (.cells #[.slice none 0 0] 75)).setCell ⟨w6.heap.size, 0, none⟩ (.slice Ad d.length cd) = W6a := ⟨_, rfl⟩)
    | (gi_at_call 45; generalize hW7 : World.alloc _ _ = W7; refine (half_sizes (n - 1) (by omega) w W2 w6 W6a W7 _ A0 c0 l0 am c1 l1 Ad cd d HR0.out HR1.out HM.out.2.2.2.1 HM.out.2.2.2.2.2.2 HM.out.2.2.1 HM.out.2.2.2.2.1 HB2.out HX6.out.1 HX6.out.2 hW6a hW7).mono ?_; rintro e w8 ⟨Az, cz, rfl, hz8, h8⟩; obtain ⟨az, e8, g8⟩ := Kd.at_int hz8 wg HM.out.1 HM.out.2.1; subst e8; have p8 := eq_true HM.out.1; have q8 := eq_true HM.out.2.1; have HZ := Aside0.mk (And.intro hz8 h8); clear hz8 h8 hW7 hW6a cb cb5 cb6 g1 hpos hposn hW2))
  clear g8 p8 q8
  obtain ⟨sz, hsz⟩ : ∃ sz, szH l0 d l1 = sz := ⟨_, rfl⟩
  rw [hsz] at HZ HRR
  simp only [hsz]
  obtain ⟨m, hm⟩ : ∃ m, rd sz wg = m := ⟨_, rfl⟩
  rw [hm] at HRR
  simp only [hm]
  gi_loopw [10, 36] (fun v10 v36 wr => ∃ b x : Int, v10 = .int .i64 b ∧ v36 = .int .i64 x ∧ Aside0 (0 ≤ x ∧ x ≤ (l0.length : Int)) ∧ Aside0 (b = bestH sz d l1 m x.toNat ∧ ∃ q, wr = w8.drewN q))
    (fun _ v _ => l0.length - (intOf v).toNat)
  case atStart => exact ⟨-1, 0, by first | rfl | (congr 1; omega), by first | rfl | (congr 1; omega), ⟨by omega, by omega⟩, ⟨rfl, 0, rfl⟩⟩
  case round =>
    obtain ⟨b, x, rfl, rfl, HX, HBq⟩ := hrel
    obtain ⟨hb, q, hq⟩ := HBq.out
    have hbr := bestH_range sz d l1 m x.toNat
    rw [← hb] at hbr
    obtain ⟨⟨hB8, bm8, br8⟩, ⟨bd8, bf8⟩, hd8, hc8⟩ := HZ.out.2
    have hz8 := HZ.out.1
    by_cases hlt : x < (l0.length : Int)
    case neg =>
      have hltb := decide_eq_false hlt
      have hxl : x.toNat = l0.length := by have := HX.out; omega
      rw [hxl] at hb
      clear hbr
      rw [← hb] at HRR
      have hm' : wr.cell? ⟨w.heap.size, 0, none⟩ = some (.slice (some am) l1.length c1) := by rw [hq]; exact bm8.cell
      have hr' : Boxed2 wr (w.heap.size + 1) 39 (.int .i64 0) (.int .i64 0) := by rw [hq]; exact br8
      have hB' : Below w.heap.size w wr := by rw [hq]; exact below_dn hB8 q
      have HE := Aside0.mk (And.intro hr' hB')
      clear hlt hq hz8 hB8 bm8 br8 bd8 bf8 hd8 hc8 hxl
      have f0_ := hr'.f0
      have f1_ := hr'.f1
      have c0_ := hr'.c0
      have c1_ := hr'.c1
      clear hr' hB'
      by_cases hb0 : b < 0
      case neg =>
        have hrr := HRR.out
        rw [if_neg hb0] at hrr
        clear hb HBq
        obtain ⟨e1_, e2_⟩ := Prod.mk.inj (Option.some.inj hrr)
        subst e1_
        subst e2_
        have hb0b := decide_eq_false hb0
        clear hb0 hrr HRR
        gi_wp2
        refine bodyPost_ret (results_cell_row rfl _ _ (w.heap.size + 1) 39 #[.int .i64 0, .int .i64 b] (0, 0) _ rfl (HE.out.1.put _ _) Tryd.underlying39 rfl (by kernel_rfl)) rfl ⟨rfl, ?_⟩
        exact (HE.out.2.setCell (p := ⟨w.heap.size + 1, 0, none⟩) (Nat.le_succ _) _).setCell (p := ⟨w.heap.size + 1, 1, none⟩) (Nat.le_succ _) _
      have hb0b := decide_eq_true hb0
      have hrr := HRR.out
      rw [if_pos hb0] at hrr
      have HB0 := Aside0.mk hrr
      clear hb0 hrr hb
      gi_wp2_with (first
        | (gi_at_call 48; refine ((callsIn_wide (n := n - 1)).2 (top_Bug.calls _ _ l0 _ _ l1 wg r1 r2 _ (Kd.C_below HR0.out HE.out.2) HC0.out (Kd.C_below HR1.out HE.out.2) HC1.out HB0.out)).mono ?_; rintro e w9 ⟨rfl, hb9⟩; have hr9 : Boxed2 w9 (w.heap.size + 1) 39 (.int .i64 0) (.int .i64 0) := (hb9.block _ HE.out.1.lt).trans HE.out.1; have HE9 := Aside0.mk (And.intro hr9 (HE.out.2.trans (hb9.mono HE.out.2.size))); have f90 := hr9.f0; have f91 := hr9.f1; have c90 := hr9.c0; have c91 := hr9.c1; clear hr9 hb9))
      refine bodyPost_ret (results_cell_row rfl _ _ (w.heap.size + 1) 39 #[.int .i64 r1, .int .i64 r2] (0, 0) _ rfl (HE9.out.1.put _ _) Tryd.underlying39 rfl (by kernel_rfl)) rfl ⟨rfl, ?_⟩
      exact (HE9.out.2.setCell (p := ⟨w.heap.size + 1, 0, none⟩) (Nat.le_succ _) _).setCell (p := ⟨w.heap.size + 1, 1, none⟩) (Nat.le_succ _) _
    have hltb := decide_eq_true hlt
    have hx0 : 0 ≤ x := HX.out.1
    obtain ⟨az', e9, g9⟩ := Kd.at_int hz8 x hx0 hlt
    cases e9
    have g9' : wr.cell? (az.add x.toNat) = some (.int .i64 (rd sz x)) := by rw [hq]; exact g9
    have cf : wr.cell? ⟨W6a.heap.size, 0, none⟩ = some (.func (.func 44) #[] #[.pointer (some ⟨w6.heap.size, 0, none⟩), .pointer (some ⟨w.heap.size, 0, none⟩)]) := by rw [hq]; exact bf8.cell
    have HQ := Aside0.mk (fun k => (open_calls (wr.drewN k) w6.heap.size w.heap.size d l1 Ad cd (some am) c1 (by rw [hq]; exact bd8.cell) (by rw [hq]; exact bm8.cell) (by rw [hq]; exact hd8) (by rw [hq]; exact hc8) x hx0 (by have := HM.out.2.2.2.2.1; omega) (by have := HM.out.2.2.1; omega)).mono (R' := fun e W' => e = .returned (.bool (openB d l1 x)) ∧ ∃ m, W' = (wr.drewN k).drewN m) (fun e W' ⟨h1, h2⟩ => ⟨h1, 0, h2⟩))
    have HF := Aside0.mk (fun (y : Int) k => (off_calls y m (wr.drewN k)).mono (R' := fun e W' => e = .returned (.int .i64 (offW y m)) ∧ ∃ q, W' = (wr.drewN k).drewN q) (fun e W' ⟨h1, h2⟩ => ⟨h1, 0, h2⟩))
    have HK := Aside0.mk (And.intro hb (And.intro hq (And.intro hbr (And.intro hx0 hlt))))
    have hw1 : wrap64 (x + 1) = x + 1 := by have := HM.out.2.2.2.1; unfold wrap64; omega
    have HW := Aside0.mk hw1
    have hbx : bestH sz d l1 m (x + 1).toNat = if openB d l1 x = true ∧ (b < 0 ∨ offW (rd sz x) m < offW (rd sz b) m) then x else b := by
      rw [show (x + 1).toNat = x.toNat + 1 by omega, bestH, ← hb, show ((x.toNat : Nat) : Int) = x by omega]
    have HBX := Aside0.mk hbx
    have hms : l0.length - (x + 1).toNat < l0.length - x.toNat := by omega
    have HMS := Aside0.mk hms
    have hx9 : 0 ≤ x + 1 ∧ x + 1 ≤ (l0.length : Int) := by omega
    have HX9 := Aside0.mk hx9
    clear hb hq hbr hw1 hbx hms hx9 hz8 hB8 bm8 br8 bd8 bf8 hd8 hc8 g9
    replace hlt := eq_true hlt
    replace hx0 := eq_true hx0
    cases ho : openB d l1 x with
    | false =>
      rw [ho] at HQ HBX
      clear ho
      gi_wp2
      refine wpIn_region_quiet_lit rfl hmix (by kernel_rfl) ?_
      iterate 2 (quiet_step_in (fail))
      quiet_step_in (exact CallsIn.quiet_of (callsIn_wide.2 (HQ.out _)))
      quiet_step_in (fail)
      iterate 14 (refine BigFrame.wpQuietIn_skip (fun _ _ _ _ => trivial) (by first | rfl | kernel_rfl | simp [Region.wanted, yielded]) ?_; simp only [Act.put, List.setIfInBounds_toArray, List.set_cons_succ, List.set_cons_zero])
      quiet_step_in (fail)
      refine wpQuietIn_nil ?_
      intro _ hw'
      obtain ⟨nq, hw''⟩ := hw'
      subst hw''
      gi_wp2
      rw [HW.out]
      exact ⟨⟨b, x + 1, rfl, rfl, ⟨HX9.out⟩, ⟨by rw [HBX.out]; simp, q + nq, by rw [HK.out.2.1]; exact World.drewN_drewN _ _ _⟩⟩, by simp only [intOf]; exact HMS.out⟩
    | true =>
      rw [ho] at HQ HBX
      clear ho
      by_cases hb0 : b < 0
      case pos =>
        have hb0b := decide_eq_true hb0
        have HB0 := Aside0.mk hb0
        clear hb0
        gi_wp2
        refine wpIn_region_quiet_lit rfl hmix (by kernel_rfl) ?_
        iterate 2 (quiet_step_in (fail))
        quiet_step_in (exact CallsIn.quiet_of (callsIn_wide.2 (HQ.out _)))
        iterate 4 (quiet_step_in (fail))
        iterate 10 (refine BigFrame.wpQuietIn_skip (fun _ _ _ _ => trivial) (by first | rfl | kernel_rfl | simp [Region.wanted, yielded]) ?_; simp only [Act.put, List.setIfInBounds_toArray, List.set_cons_succ, List.set_cons_zero])
        iterate 2 (quiet_step_in (fail))
        refine wpQuietIn_nil ?_
        intro _ hw'
        obtain ⟨nq, hw''⟩ := hw'
        subst hw''
        gi_wp2
        rw [HW.out]
        exact ⟨⟨x, x + 1, rfl, rfl, ⟨HX9.out⟩, ⟨by rw [HBX.out]; simp [HB0.out], q + nq, by rw [HK.out.2.1]; exact World.drewN_drewN _ _ _⟩⟩, by simp only [intOf]; exact HMS.out⟩
      have hb0b := decide_eq_false hb0
      have hb1 : 0 ≤ b := by omega
      have hb2 : b < (l0.length : Int) := by have := HK.out.2.2.1.2; have := HX.out; omega
      obtain ⟨az'', e9, g10⟩ := Kd.at_int HZ.out.1 b hb1 hb2
      cases e9
      have g10' : wr.cell? (az.add b.toNat) = some (.int .i64 (rd sz b)) := by rw [HK.out.2.1]; exact g10
      have HB0 := Aside0.mk hb0
      clear hb0 g10
      replace hb1 := eq_true hb1
      replace hb2 := eq_true hb2
      obtain ⟨o1, ho1⟩ : ∃ o1, offW (rd sz x) m = o1 := ⟨_, rfl⟩
      obtain ⟨o2, ho2⟩ : ∃ o2, offW (rd sz b) m = o2 := ⟨_, rfl⟩
      have H1 := Aside0.mk (fun k => HF.out (rd sz x) k)
      have H2 := Aside0.mk (fun k => HF.out (rd sz b) k)
      rw [ho1] at H1 HBX
      rw [ho2] at H2 HBX
      by_cases hoo : o1 < o2
      case pos =>
        have hoob := decide_eq_true hoo
        have HOO := Aside0.mk hoo
        clear hoo ho1 ho2
        gi_wp2
        refine wpIn_region_quiet_lit rfl hmix (by kernel_rfl) ?_
        iterate 2 (quiet_step_in (fail))
        quiet_step_in (exact CallsIn.quiet_of (callsIn_wide.2 (HQ.out _)))
        iterate 6 (quiet_step_in (fail))
        quiet_step_in (exact CallsIn.quiet_of (callsIn_wide.2 (H1.out _)))
        iterate 5 (quiet_step_in (fail))
        quiet_step_in (exact CallsIn.quiet_of (callsIn_wide.2 (H2.out _)))
        iterate 3 (quiet_step_in (fail))
        refine wpQuietIn_nil ?_
        intro _ hw'
        obtain ⟨nq, hw''⟩ := hw'
        subst hw''
        gi_wp2
        rw [HW.out]
        exact ⟨⟨x, x + 1, rfl, rfl, ⟨HX9.out⟩, ⟨by rw [HBX.out]; simp [HOO.out], q + nq, by rw [HK.out.2.1]; exact World.drewN_drewN _ _ _⟩⟩, by simp only [intOf]; exact HMS.out⟩
      have hoob := decide_eq_false hoo
      have HOO := Aside0.mk hoo
      clear hoo ho1 ho2
      gi_wp2
      refine wpIn_region_quiet_lit rfl hmix (by kernel_rfl) ?_
      iterate 2 (quiet_step_in (fail))
      quiet_step_in (exact CallsIn.quiet_of (callsIn_wide.2 (HQ.out _)))
      iterate 6 (quiet_step_in (fail))
      quiet_step_in (exact CallsIn.quiet_of (callsIn_wide.2 (H1.out _)))
      iterate 5 (quiet_step_in (fail))
      quiet_step_in (exact CallsIn.quiet_of (callsIn_wide.2 (H2.out _)))
      iterate 3 (quiet_step_in (fail))
      refine wpQuietIn_nil ?_
      intro _ hw'
      obtain ⟨nq, hw''⟩ := hw'
      subst hw''
      gi_wp2
      rw [HW.out]
      exact ⟨⟨b, x + 1, rfl, rfl, ⟨HX9.out⟩, ⟨by rw [HBX.out, if_neg (fun h => by have h1 := HB0.out; have h2 := HOO.out; have h3 := h.2; omega)], q + nq, by rw [HK.out.2.1]; exact World.drewN_drewN _ _ _⟩⟩, by simp only [intOf]; exact HMS.out⟩
end
set_option maxHeartbeats 8000000 in
set_option maxRecDepth 100000 in
theorem half_Ask.calls (k : Nat) (A0 : Option Addr) (c0 : Nat) (l0 : List (S33)) (A1 : Option Addr) (c1 : Nat) (l1 : List Int) (r1 : Int) (r2 : Int) (w : World) (hr0 : Kd.C k33 w A0 l0.length l0) (hc0 : l0.length ≤ c0) (hr1 : Kd.C (Kd.int .i64) w A1 l1.length l1) (hc1 : l1.length ≤ c1) (h : half_Ask.f k l0 l1 = some (r1, r2)) (hG : GOK w) :
    Calls Tryd.prog 28 #[.slice A0 l0.length c0, .slice A1 l1.length c1] w fun e w' => e = .returned (.agg #[.int .i64 r1, .int .i64 r2]) ∧ Below w.heap.size w w' := by
  unfold half_Ask.f at h
  by_cases cg : 0 < l0.length ∧ l0.length ≤ 512 ∧ l1.length = l0.length ∧ parB l0 = true
  case neg =>
    rw [if_neg cg] at h; cases h

  rw [if_pos cg] at h
  by_cases c2 : rd l1 0 = 2
  case pos =>
    rw [if_pos c2] at h
    obtain ⟨wg, hL, h⟩ := Option.bind_eq_some_iff.mp h
    obtain ⟨d, hD, h⟩ := Option.bind_eq_some_iff.mp h
    by_cases cw : 0 ≤ wg ∧ wg < (l0.length : Int) ∧ d.length = l0.length
    case neg =>
      rw [if_neg cw] at h; cases h
    rw [if_pos cw] at h
    exact (callsIn_wide (n := 4)).1 (half_Ask.inW 4 (by omega) k A0 c0 l0 A1 c1 l1 wg d r1 r2 w hr0 hc0 hr1 hc1 c2 cg.1 cg.2.1 cg.2.2.1 cg.2.2.2 hL hD cw.1 cw.2.1 cw.2.2 h)
  rw [if_neg c2] at h
  obtain ⟨am, e, g⟩ := Kd.at_int hr1 0 (by omega) (by omega)
  cases e
  have HR0 := Aside0.mk hr0
  have HC0 := Aside0.mk hc0
  have HR1 := Aside0.mk hr1
  have HC1 := Aside0.mk hc1
  have HA := Aside0.mk h
  have hB2 : Below w.heap.size w ((w.alloc (.cells #[.slice (some am) l1.length c1] 34)).alloc (.cells #[.int .i64 0, .int .i64 0] 39)) := ((Below.refl _ w).alloc (Nat.le_refl _) _).alloc (by simp) _
  have bx0 := ((Boxed.new w 34 (.slice (some am) l1.length c1)).alloc (.cells #[.int .i64 0, .int .i64 0] 39))
  have bx1 := Boxed2.new (w.alloc (.cells #[.slice (some am) l1.length c1] 34)) 39 (.int .i64 0) (.int .i64 0)
  simp only [World.size_alloc] at bx1
  have g1 := (hB2.cell (World.block_lt_of_cell? w _ g)).trans g
  rw [show am.add (Int.toNat 0) = am from by cases am; rfl] at g1
  have cb := bx0.cell
  have HB2 := Aside0.mk (And.intro hB2 (And.intro bx0 bx1))
  have hpos : ((0 : Int) < (l1.length : Int)) = True := eq_true (by omega)
  have hposn : (0 < l1.length) = True := eq_true (by omega)
  have hne : (rd l1 0 != 2) = true := bne_iff_ne.2 c2
  have hu := Tryd.underlying39
  obtain ⟨W2, hW2⟩ : ∃ W2, (w.alloc (.cells #[.slice (some am) l1.length c1] 34)).alloc (.cells #[.int .i64 0, .int .i64 0] 39) = W2 := ⟨_, rfl⟩
  rw [hW2] at g1 cb HB2
  have HG := Aside0.mk hG
  clear hr0 hc0 hr1 hc1 h g bx0 bx1 hB2 cg c2 hG
  go_enter Tryd.func28, Tryd.ntmps28
  go_wp2_with (first
    | (go_at_call 29; (refine (top_Ask.calls k _ _ l0 _ _ l1 r1 r2 _ (Kd.C_below HR0.out HB2.out.1) HC0.out (Kd.C_below HR1.out HB2.out.1) HC1.out HA.out).mono ?_); rintro e w9 ⟨rfl, hb9⟩; have hr9 : Boxed2 w9 (w.heap.size + 1) 39 (.int .i64 0) (.int .i64 0) := (hb9.block _ HB2.out.2.2.lt).trans HB2.out.2.2; have HE9 := Aside0.mk (And.intro hr9 (HB2.out.1.trans (hb9.mono HB2.out.1.size))); have f90 := hr9.f0; have f91 := hr9.f1; have c90 := hr9.c0; have c91 := hr9.c1; clear hr9 hb9))
  refine bodyPost_ret (results_cell_row rfl _ _ (w.heap.size + 1) 39 #[.int .i64 r1, .int .i64 r2] (0, 0) _ rfl (HE9.out.1.put _ _) Tryd.underlying39 rfl (by kernel_rfl)) rfl ⟨rfl, ?_⟩
  exact (HE9.out.2.setCell (p := ⟨w.heap.size + 1, 0, none⟩) (Nat.le_succ _) _).setCell (p := ⟨w.heap.size + 1, 1, none⟩) (Nat.le_succ _) _
end Go.Proofs.YtgokcaccamfgfaaDoor.G
end
section
-- Laid by the session's own driver gp.py over the kit's printer. Not trusted: Lean checks it.
namespace Go.Proofs.YtgokcaccamfgfaaDoor.G
open Go.RowKit Go.Proofs.YtgokcaccamfgfaaDoorW.PrintWords Go.Proofs.YtgokcaccamfgfaaDoorW.PrintLast Go.Proofs.YtgokcaccamfgfaaDoorW.PrintMore
attribute [local go_sem] max2_int min2_int max_two min_two max_three min_three max_four min_four   -- for this text's walks alone
set_option linter.unusedVariables false
set_option linter.unusedSimpArgs false

/-! ### next_Ask: function 21 -/
def next_Ask.f (k : Nat) (a0 : Int) (l1 : List (S33)) (l2 : List Int) : Option (Int × Int) := if a0 = 1 then ((half_Ask.f k l1 l2).bind fun bt180 => (some (bt180.1, bt180.2))) else ((top_Ask.f k l1 l2).bind fun bt182 => (some (bt182.1, bt182.2)))
theorem next_Ask.mono : ∀ a0 a1 a2 k, LeO (next_Ask.f k a0 a1 a2) (next_Ask.f (k + 1) a0 a1 a2) := by
  intro a0 a1 a2 k
  unfold next_Ask.f
  repeat' first
      | (with_reducible exact half_Ask.mono _ _ _)
      | (with_reducible exact top_Ask.mono _ _ _)
      | (with_reducible exact LeO.refl _)
      | (with_reducible exact LeO.none _)
      | (with_reducible refine LeO.ite ?_ ?_)
      | (with_reducible refine LeO.bind ?_ (fun _ => ?_))
      | exact half_Ask.mono _ _ _
      | exact top_Ask.mono _ _ _
      | exact LeO.none _
      | refine LeO.ite ?_ ?_
      | refine LeO.bind ?_ (fun _ => ?_)
set_option maxHeartbeats 8000000 in
set_option maxRecDepth 100000 in
theorem next_Ask.calls (k : Nat) (a0 : Int) (A1 : Option Addr) (c1 : Nat) (l1 : List (S33)) (A2 : Option Addr) (c2 : Nat) (l2 : List Int) (r1 : Int) (r2 : Int) (w : World) (hr1 : Kd.C k33 w A1 l1.length l1) (hc1 : l1.length ≤ c1) (hr2 : Kd.C (Kd.int .i64) w A2 l2.length l2) (hc2 : l2.length ≤ c2) (h : next_Ask.f k a0 l1 l2 = some (r1, r2)) (hG : GOK w) :
    Calls Tryd.prog 21 #[.int .i64 a0, .slice A1 l1.length c1, .slice A2 l2.length c2] w fun e w' => e = .returned (.agg #[.int .i64 r1, .int .i64 r2]) ∧ Below w.heap.size w w' := by
  have hu39 := Tryd.underlying39
  have HR1 := Aside0.mk hr1
  have HC1 := Aside0.mk hc1
  clear hr1 hc1
  have HR2 := Aside0.mk hr2
  have HC2 := Aside0.mk hc2
  clear hr2 hc2
  have HB := Aside0.mk (Below.refl w.heap.size w)
  have H : (if a0 = 1 then ((half_Ask.f k l1 l2).bind fun bt180 => (some (bt180.1, bt180.2))) else ((top_Ask.f k l1 l2).bind fun bt182 => (some (bt182.1, bt182.2)))) = some (r1, r2) := h
  clear h
  by_cases c4 : a0 = 1
  case neg =>
    rw [if_neg c4] at H
    have c4b0 : (a0 == 1) = false := beq_eq_false_iff_ne.mpr c4
    have c4b1 : (a0 != 1) = true := bne_iff_ne.mpr c4
    replace H := Option.bind_eq_some_iff.mp H
    obtain ⟨⟨t182, t183⟩, A90, H⟩ := H
    replace H : (some (t182, t183)) = some (r1, r2) := H
    have A9 := Aside0.mk A90
    clear A90
    simp only [Option.some.injEq, Prod.mk.injEq] at H
    obtain ⟨rfl, rfl⟩ := H
    go_enter Tryd.func21, Tryd.ntmps21
    go_wp2_with (first | ((with_reducible refine gate_dst (N := 6) rfl ?_); refine boxE_ 6 #[.int .i64 0, .int .i64 0] 39 ?_; intro gb179 hg w10 hbox hb; have n0_ := Aside0.mk (below_step hB_ hb); have n1_ := Aside0.mk (hbox); have n2_ := Aside0.mk ((gE_ hg : w.heap.size ≤ gb179)); have n3_ := Aside0.mk ((gE_ hg : w.heap.size ≤ gb179)); clear HB; have HB := n0_; have BK179 := n1_; have GW179 := n2_; have GE179 := n3_; clear n0_ n1_ n2_ n3_; clear hb hbox hg) | ((with_reducible refine gate_callee (f := 29) rfl ?_); refine goesL_ (some 14) rfl rfl Tryd.func29 (by kernel_rfl) rfl #[.slice A1 l1.length c1, .slice A2 l2.length c2] rfl hL_ ?_; (with_reducible refine (top_Ask.calls k _ _ l1 _ _ l2 t182 t183 _ ?side1 ?side2 ?side3 ?side4 A9.out).mono ?_); (case side1 => exact cB_ HR1.out); (case side2 => exact HC1.out); (case side3 => exact cB_ HR2.out); (case side4 => exact HC2.out); rintro e w11 ⟨rfl, hb⟩; refine ⟨_, rfl, ?_⟩; have n0_ := Aside0.mk (bB_ BK179.out hb); have n1_ := Aside0.mk (below_step hC_ hb); clear BK179 HB; have BK179 := n0_; have HB := n1_; clear n0_ n1_; (try clear hb); (try clear hb2); (try clear hk); (try clear hi); obtain ⟨hcz12_0, hcz12_1, hfz12_0, hfz12_1⟩ := bx2_ BK179.out))
    refine bodyPost_ret (results_cell_row rfl _ _ gb179 39 #[.int .i64 t182, .int .i64 t183] (0, 0) _ rfl (bP_ (bP_ (hK_ BK179.out))) Tryd.underlying39 rfl (by kernel_rfl)) rfl ?_
    exact ⟨hV_, hC_⟩

  rw [if_pos c4] at H
  have c4b0 : (a0 == 1) = true := beq_iff_eq.mpr c4
  have c4b1 : (a0 != 1) = false := bne_eq_false_iff_eq.mpr c4
  clear c4
  replace H := Option.bind_eq_some_iff.mp H
  obtain ⟨⟨t180, t181⟩, A50, H⟩ := H
  replace H : (some (t180, t181)) = some (r1, r2) := H
  have A5 := Aside0.mk A50
  clear A50
  simp only [Option.some.injEq, Prod.mk.injEq] at H
  obtain ⟨rfl, rfl⟩ := H
  go_enter Tryd.func21, Tryd.ntmps21
  go_wp2_with (first | ((with_reducible refine gate_dst (N := 6) rfl ?_); refine boxE_ 6 #[.int .i64 0, .int .i64 0] 39 ?_; intro gb179 hg w6 hbox hb; have n0_ := Aside0.mk (below_step hB_ hb); have n1_ := Aside0.mk (hbox); have n2_ := Aside0.mk ((gE_ hg : w.heap.size ≤ gb179)); have n3_ := Aside0.mk ((gE_ hg : w.heap.size ≤ gb179)); clear HB; have HB := n0_; have BK179 := n1_; have GW179 := n2_; have GE179 := n3_; clear n0_ n1_ n2_ n3_; clear hb hbox hg) | ((with_reducible refine gate_callee (f := 28) rfl ?_); refine goesL_ (some 11) rfl rfl Tryd.func28 (by kernel_rfl) rfl #[.slice A1 l1.length c1, .slice A2 l2.length c2] rfl hL_ ?_; (with_reducible refine (half_Ask.calls k _ _ l1 _ _ l2 t180 t181 _ ?side1 ?side2 ?side3 ?side4 A5.out (by first | exact hG | exact GOK.below hG hC_)).mono ?_); (case side1 => exact cB_ HR1.out); (case side2 => exact HC1.out); (case side3 => exact cB_ HR2.out); (case side4 => exact HC2.out); rintro e w7 ⟨rfl, hb⟩; refine ⟨_, rfl, ?_⟩; have n0_ := Aside0.mk (bB_ BK179.out hb); have n1_ := Aside0.mk (below_step hC_ hb); clear BK179 HB; have BK179 := n0_; have HB := n1_; clear n0_ n1_; (try clear hb); (try clear hb2); (try clear hk); (try clear hi); obtain ⟨hcz8_0, hcz8_1, hfz8_0, hfz8_1⟩ := bx2_ BK179.out))
  refine bodyPost_ret (results_cell_row rfl _ _ gb179 39 #[.int .i64 t180, .int .i64 t181] (0, 0) _ rfl (bP_ (bP_ (hK_ BK179.out))) Tryd.underlying39 rfl (by kernel_rfl)) rfl ?_
  exact ⟨hV_, hC_⟩
/-! ### next_Step: function 10 -/
def next_Step.f (k : Nat) (l0_0 : List (S33)) (a0_1 : Int) (l0_2 : List (S26)) : Option (Int × Int × Int) := (next_Marks.f k l0_0 a0_1 l0_2).bind fun bt186 => (if bt186.2 = 0 then ((next_Way.f a0_1).bind fun t190 => (if t190 = true then ((next_Ask.f k a0_1 l0_0 bt186.1).bind fun bt191 => (some (bt191.1, bt191.2, 0))) else (some (0, 0, 2000)))) else (some (0, 0, 2000)))
theorem next_Step.mono : ∀ a0 a1 a2 k, LeO (next_Step.f k a0 a1 a2) (next_Step.f (k + 1) a0 a1 a2) := by
  intro a0 a1 a2 k
  unfold next_Step.f
  repeat' first
      | (with_reducible exact next_Ask.mono _ _ _ _)
      | (with_reducible exact next_Marks.mono _ _ _ _)
      | (with_reducible exact LeO.refl _)
      | (with_reducible exact LeO.none _)
      | (with_reducible refine LeO.ite ?_ ?_)
      | (with_reducible refine LeO.bind ?_ (fun _ => ?_))
      | exact next_Ask.mono _ _ _ _
      | exact next_Marks.mono _ _ _ _
      | exact LeO.none _
      | refine LeO.ite ?_ ?_
      | refine LeO.bind ?_ (fun _ => ?_)
set_option maxHeartbeats 8000000 in
set_option maxRecDepth 100000 in
theorem next_Step.calls (k : Nat) (A0_0 : Option Addr) (c0_0 : Nat) (l0_0 : List (S33)) (a0_1 : Int) (A0_2 : Option Addr) (c0_2 : Nat) (l0_2 : List (S26)) (r1 : Int) (r2 : Int) (r3 : Int) (w : World) (hr0_0 : Kd.C k33 w A0_0 l0_0.length l0_0) (hc0_0 : l0_0.length ≤ c0_0) (hr0_2 : Kd.C k26 w A0_2 l0_2.length l0_2) (hc0_2 : l0_2.length ≤ c0_2) (h : next_Step.f k l0_0 a0_1 l0_2 = some (r1, r2, r3)) (hG : GOK w) :
    Calls Tryd.prog 10 #[.agg #[.slice A0_0 l0_0.length c0_0, .int .i64 a0_1, .slice A0_2 l0_2.length c0_2]] w fun e w' => e = .returned (.tuple #[.agg #[.int .i64 r1, .int .i64 r2], .int .i64 r3]) ∧ Below w.heap.size w w' := by
  have hu29 := Tryd.underlying29
  have hu39 := Tryd.underlying39
  have HR0_0 := Aside0.mk hr0_0
  have HC0_0 := Aside0.mk hc0_0
  clear hr0_0 hc0_0
  have HR0_2 := Aside0.mk hr0_2
  have HC0_2 := Aside0.mk hc0_2
  clear hr0_2 hc0_2
  have HB := Aside0.mk (Below.refl w.heap.size w)
  have H : ((next_Marks.f k l0_0 a0_1 l0_2).bind fun bt186 => (if bt186.2 = 0 then ((next_Way.f a0_1).bind fun t190 => (if t190 = true then ((next_Ask.f k a0_1 l0_0 bt186.1).bind fun bt191 => (some (bt191.1, bt191.2, 0))) else (some (0, 0, 2000)))) else (some (0, 0, 2000)))) = some (r1, r2, r3) := h
  clear h
  replace H := Option.bind_eq_some_iff.mp H
  obtain ⟨⟨t186, t189⟩, A20, H⟩ := H
  replace H : (if t189 = 0 then ((next_Way.f a0_1).bind fun t190 => (if t190 = true then ((next_Ask.f k a0_1 l0_0 t186).bind fun bt191 => (some (bt191.1, bt191.2, 0))) else (some (0, 0, 2000)))) else (some (0, 0, 2000))) = some (r1, r2, r3) := H
  have A2 := Aside0.mk A20
  clear A20
  by_cases c3 : t189 = 0
  case neg =>
    rw [if_neg c3] at H
    have c3b0 : (t189 == 0) = false := beq_eq_false_iff_ne.mpr c3
    have c3b1 : (t189 != 0) = true := bne_iff_ne.mpr c3
    simp only [Option.some.injEq, Prod.mk.injEq] at H
    obtain ⟨rfl, rfl, rfl⟩ := H
    go_enter Tryd.func10, Tryd.ntmps10
    go_wp2_with (first | ((with_reducible refine gate_dst (N := 1) rfl ?_); refine boxE_ 1 #[.slice A0_0 l0_0.length c0_0, .int .i64 a0_1, .slice A0_2 l0_2.length c0_2] 29 ?_; intro gb184 hg w23 hbox hb; have n0_ := Aside0.mk (below_step hB_ hb); have n1_ := Aside0.mk (hbox); have n2_ := Aside0.mk ((gE_ hg : w.heap.size ≤ gb184)); have n3_ := Aside0.mk ((gE_ hg : w.heap.size ≤ gb184)); clear HB; have HB := n0_; have BK184 := n1_; have GW184 := n2_; have GE184 := n3_; clear n0_ n1_ n2_ n3_; clear hb hbox hg) | ((with_reducible refine gate_dst (N := 2) rfl ?_); refine boxE_ 2 #[.int .i64 0, .int .i64 0] 39 ?_; intro gb185 hg w24 hbox hb; have n0_ := Aside0.mk (bB_ BK184.out hb); have n1_ := Aside0.mk (below_step hC_ hb); have n2_ := Aside0.mk (hbox); have n3_ := Aside0.mk ((gE_ hg : w.heap.size ≤ gb185)); have n4_ := Aside0.mk ((gE_ hg : w.heap.size ≤ gb185)); have n5_ := Aside0.mk ((bL_ BK184.out hg : gb184 ≠ gb185)); have n6_ := Aside0.mk ((bG_ BK184.out hg : gb185 ≠ gb184)); clear BK184 HB; have BK184 := n0_; have HB := n1_; have BK185 := n2_; have GW185 := n3_; have GE185 := n4_; have NB184_185 := n5_; have NB185_184 := n6_; clear n0_ n1_ n2_ n3_ n4_ n5_ n6_; clear hb hbox hg; have hnb25 := NB184_185.out; have hnc25 := NB185_184.out; obtain ⟨hcz26_0, hcz26_1, hcz26_2, hfz26_0, hfz26_1, hfz26_2⟩ := bx3_ BK184.out) | ((with_reducible refine gate_callee (f := 9) rfl ?_); refine goesL_ (some 8) rfl rfl Tryd.func9 (by kernel_rfl) rfl #[.agg #[.slice A0_0 l0_0.length c0_0, .int .i64 a0_1, .slice A0_2 l0_2.length c0_2]] rfl hL_ ?_; (with_reducible refine (next_Marks.calls k _ _ l0_0 a0_1 _ _ l0_2 t186 t189 _ ?side1 ?side2 ?side3 ?side4 A2.out (by first | exact hG | exact GOK.below hG hC_)).mono ?_); (case side1 => exact cB_ HR0_0.out); (case side2 => exact HC0_0.out); (case side3 => exact cB_ HR0_2.out); (case side4 => exact HC0_2.out); rintro e w27 ⟨v187, rfl, ho0, hb⟩; refine ⟨_, rfl, ?_⟩; have n0_ := Aside0.mk (Kd.R_lower ho0 (below_size hC_)); have n1_ := Aside0.mk (bB_ BK184.out hb); have n2_ := Aside0.mk (bB_ BK185.out hb); have n3_ := Aside0.mk (below_step hC_ hb); clear BK184 BK185 HB; have HO188 := n0_; have BK184 := n1_; have BK185 := n2_; have HB := n3_; clear n0_ n1_ n2_ n3_; (try clear hb); (try clear hb2); (try clear hk); (try clear hi); (try clear ho0); obtain ⟨hcz28_0, hcz28_1, hfz28_0, hfz28_1⟩ := bx2_ BK185.out))
    refine bodyPost_ret (results_ct rfl _ _ gb185 39 #[.int .i64 0, .int .i64 0] (0, 0) _ rfl (bP_ (bP_ (hK_ BK185.out))) Tryd.underlying39 rfl (by kernel_rfl)) rfl ?_
    exact ⟨hV_, hC_⟩

  rw [if_pos c3] at H
  have c3b0 : (t189 == 0) = true := beq_iff_eq.mpr c3
  have c3b1 : (t189 != 0) = false := bne_eq_false_iff_eq.mpr c3
  clear c3
  replace H := Option.bind_eq_some_iff.mp H
  obtain ⟨t190, A40, H⟩ := H
  replace H : (if t190 = true then ((next_Ask.f k a0_1 l0_0 t186).bind fun bt191 => (some (bt191.1, bt191.2, 0))) else (some (0, 0, 2000))) = some (r1, r2, r3) := H
  have A4 := Aside0.mk A40
  clear A40
  by_cases c5 : t190 = true
  case neg =>
    replace c5 := Bool.eq_false_iff.mpr c5
    subst c5
    have H1 : (some (0, 0, 2000)) = some (r1, r2, r3) := by rw [if_neg (show ¬ (false = true) by decide)] at H; exact H
    clear H
    have H := H1
    clear H1
    simp only [Option.some.injEq, Prod.mk.injEq] at H
    obtain ⟨rfl, rfl, rfl⟩ := H
    go_enter Tryd.func10, Tryd.ntmps10
    go_wp2_with (first | ((with_reducible refine gate_dst (N := 1) rfl ?_); refine boxE_ 1 #[.slice A0_0 l0_0.length c0_0, .int .i64 a0_1, .slice A0_2 l0_2.length c0_2] 29 ?_; intro gb184 hg w16 hbox hb; have n0_ := Aside0.mk (below_step hB_ hb); have n1_ := Aside0.mk (hbox); have n2_ := Aside0.mk ((gE_ hg : w.heap.size ≤ gb184)); have n3_ := Aside0.mk ((gE_ hg : w.heap.size ≤ gb184)); clear HB; have HB := n0_; have BK184 := n1_; have GW184 := n2_; have GE184 := n3_; clear n0_ n1_ n2_ n3_; clear hb hbox hg) | ((with_reducible refine gate_dst (N := 2) rfl ?_); refine boxE_ 2 #[.int .i64 0, .int .i64 0] 39 ?_; intro gb185 hg w17 hbox hb; have n0_ := Aside0.mk (bB_ BK184.out hb); have n1_ := Aside0.mk (below_step hC_ hb); have n2_ := Aside0.mk (hbox); have n3_ := Aside0.mk ((gE_ hg : w.heap.size ≤ gb185)); have n4_ := Aside0.mk ((gE_ hg : w.heap.size ≤ gb185)); have n5_ := Aside0.mk ((bL_ BK184.out hg : gb184 ≠ gb185)); have n6_ := Aside0.mk ((bG_ BK184.out hg : gb185 ≠ gb184)); clear BK184 HB; have BK184 := n0_; have HB := n1_; have BK185 := n2_; have GW185 := n3_; have GE185 := n4_; have NB184_185 := n5_; have NB185_184 := n6_; clear n0_ n1_ n2_ n3_ n4_ n5_ n6_; clear hb hbox hg; have hnb18 := NB184_185.out; have hnc18 := NB185_184.out; obtain ⟨hcz19_0, hcz19_1, hcz19_2, hfz19_0, hfz19_1, hfz19_2⟩ := bx3_ BK184.out) | ((with_reducible refine gate_callee (f := 9) rfl ?_); refine goesL_ (some 8) rfl rfl Tryd.func9 (by kernel_rfl) rfl #[.agg #[.slice A0_0 l0_0.length c0_0, .int .i64 a0_1, .slice A0_2 l0_2.length c0_2]] rfl hL_ ?_; (with_reducible refine (next_Marks.calls k _ _ l0_0 a0_1 _ _ l0_2 t186 t189 _ ?side1 ?side2 ?side3 ?side4 A2.out (by first | exact hG | exact GOK.below hG hC_)).mono ?_); (case side1 => exact cB_ HR0_0.out); (case side2 => exact HC0_0.out); (case side3 => exact cB_ HR0_2.out); (case side4 => exact HC0_2.out); rintro e w20 ⟨v187, rfl, ho0, hb⟩; refine ⟨_, rfl, ?_⟩; have n0_ := Aside0.mk (Kd.R_lower ho0 (below_size hC_)); have n1_ := Aside0.mk (bB_ BK184.out hb); have n2_ := Aside0.mk (bB_ BK185.out hb); have n3_ := Aside0.mk (below_step hC_ hb); clear BK184 BK185 HB; have HO188 := n0_; have BK184 := n1_; have BK185 := n2_; have HB := n3_; clear n0_ n1_ n2_ n3_; (try clear hb); (try clear hb2); (try clear hk); (try clear hi); (try clear ho0); obtain ⟨hcz21_0, hcz21_1, hcz21_2, hfz21_0, hfz21_1, hfz21_2⟩ := bx3_ BK184.out) | (go_at_call 20; (with_reducible refine (next_Way.calls a0_1 false _ A4.out).mono ?_); rintro e w' ⟨rfl, ⟨nd, rfl⟩⟩; (try (rw [drewN_self w20]; generalize hq_ : World.drewN w20 _ = w20; have n0_ : Aside0 (Kd.R (Kd.int .i64) 3 w20 w.heap.size (fun _ => True) v187 t186) := ⟨by rw [← hq_]; exact (hR_ HO188.out)⟩; have n1_ : Aside0 (w20.heap[gb184]? = some (.cells #[.slice A0_0 l0_0.length c0_0, .int .i64 a0_1, .slice A0_2 l0_2.length c0_2] 29 (0, 0))) := ⟨by rw [← hq_]; exact (hK_ BK184.out)⟩; have n2_ : Aside0 (w20.heap[gb185]? = some (.cells #[.int .i64 0, .int .i64 0] 39 (0, 0))) := ⟨by rw [← hq_]; exact (hK_ BK185.out)⟩; have n3_ : Aside0 (Below w.heap.size w w20) := ⟨by rw [← hq_]; exact hC_⟩; clear HO188 BK184 BK185 HB hq_; have HO188 := n0_; have BK184 := n1_; have BK185 := n2_; have HB := n3_; clear n0_ n1_ n2_ n3_; (try have hcu0_0 := bc0_ BK184.out); (try have hfu0_0 := blk_frozen BK184.out 0); (try have hcu0_1 := bc1_ BK184.out); (try have hfu0_1 := blk_frozen BK184.out 1); (try have hcu0_2 := bc2_ BK184.out); (try have hfu0_2 := blk_frozen BK184.out 2); (try have hcu1_0 := bc0_ BK185.out); (try have hfu1_0 := blk_frozen BK185.out 0); (try have hcu1_1 := bc1_ BK185.out); (try have hfu1_1 := blk_frozen BK185.out 1))); obtain ⟨hcz22_0, hcz22_1, hfz22_0, hfz22_1⟩ := bx2_ BK185.out))
    refine bodyPost_ret (results_ct rfl _ _ gb185 39 #[.int .i64 0, .int .i64 0] (0, 0) _ rfl (bP_ (bP_ (hK_ BK185.out))) Tryd.underlying39 rfl (by kernel_rfl)) rfl ?_
    exact ⟨hV_, hC_⟩
  subst c5
  have H1 : ((next_Ask.f k a0_1 l0_0 t186).bind fun bt191 => (some (bt191.1, bt191.2, 0))) = some (r1, r2, r3) := by rw [if_pos rfl] at H; exact H
  clear H
  have H := H1
  clear H1
  replace H := Option.bind_eq_some_iff.mp H
  obtain ⟨⟨t191, t192⟩, A60, H⟩ := H
  replace H : (some (t191, t192, 0)) = some (r1, r2, r3) := H
  have A6 := Aside0.mk A60
  clear A60
  simp only [Option.some.injEq, Prod.mk.injEq] at H
  obtain ⟨rfl, rfl, rfl⟩ := H
  go_enter Tryd.func10, Tryd.ntmps10
  go_wp2_with (first | ((with_reducible refine gate_dst (N := 1) rfl ?_); refine boxE_ 1 #[.slice A0_0 l0_0.length c0_0, .int .i64 a0_1, .slice A0_2 l0_2.length c0_2] 29 ?_; intro gb184 hg w7 hbox hb; have n0_ := Aside0.mk (below_step hB_ hb); have n1_ := Aside0.mk (hbox); have n2_ := Aside0.mk ((gE_ hg : w.heap.size ≤ gb184)); have n3_ := Aside0.mk ((gE_ hg : w.heap.size ≤ gb184)); clear HB; have HB := n0_; have BK184 := n1_; have GW184 := n2_; have GE184 := n3_; clear n0_ n1_ n2_ n3_; clear hb hbox hg) | ((with_reducible refine gate_dst (N := 2) rfl ?_); refine boxE_ 2 #[.int .i64 0, .int .i64 0] 39 ?_; intro gb185 hg w8 hbox hb; have n0_ := Aside0.mk (bB_ BK184.out hb); have n1_ := Aside0.mk (below_step hC_ hb); have n2_ := Aside0.mk (hbox); have n3_ := Aside0.mk ((gE_ hg : w.heap.size ≤ gb185)); have n4_ := Aside0.mk ((gE_ hg : w.heap.size ≤ gb185)); have n5_ := Aside0.mk ((bL_ BK184.out hg : gb184 ≠ gb185)); have n6_ := Aside0.mk ((bG_ BK184.out hg : gb185 ≠ gb184)); clear BK184 HB; have BK184 := n0_; have HB := n1_; have BK185 := n2_; have GW185 := n3_; have GE185 := n4_; have NB184_185 := n5_; have NB185_184 := n6_; clear n0_ n1_ n2_ n3_ n4_ n5_ n6_; clear hb hbox hg; have hnb9 := NB184_185.out; have hnc9 := NB185_184.out; obtain ⟨hcz10_0, hcz10_1, hcz10_2, hfz10_0, hfz10_1, hfz10_2⟩ := bx3_ BK184.out) | ((with_reducible refine gate_callee (f := 9) rfl ?_); refine goesL_ (some 8) rfl rfl Tryd.func9 (by kernel_rfl) rfl #[.agg #[.slice A0_0 l0_0.length c0_0, .int .i64 a0_1, .slice A0_2 l0_2.length c0_2]] rfl hL_ ?_; (with_reducible refine (next_Marks.calls k _ _ l0_0 a0_1 _ _ l0_2 t186 t189 _ ?side1 ?side2 ?side3 ?side4 A2.out (by first | exact hG | exact GOK.below hG hC_)).mono ?_); (case side1 => exact cB_ HR0_0.out); (case side2 => exact HC0_0.out); (case side3 => exact cB_ HR0_2.out); (case side4 => exact HC0_2.out); rintro e w11 ⟨v187, rfl, ho0, hb⟩; refine ⟨_, rfl, ?_⟩; have n0_ := Aside0.mk (Kd.R_lower ho0 (below_size hC_)); have n1_ := Aside0.mk (bB_ BK184.out hb); have n2_ := Aside0.mk (bB_ BK185.out hb); have n3_ := Aside0.mk (below_step hC_ hb); clear BK184 BK185 HB; have HO188 := n0_; have BK184 := n1_; have BK185 := n2_; have HB := n3_; clear n0_ n1_ n2_ n3_; (try clear hb); (try clear hb2); (try clear hk); (try clear hi); (try clear ho0); obtain ⟨hcz12_0, hcz12_1, hcz12_2, hfz12_0, hfz12_1, hfz12_2⟩ := bx3_ BK184.out) | (go_at_call 20; (with_reducible refine (next_Way.calls a0_1 true _ A4.out).mono ?_); rintro e w' ⟨rfl, ⟨nd, rfl⟩⟩; (try (rw [drewN_self w11]; generalize hq_ : World.drewN w11 _ = w11; have n0_ : Aside0 (Kd.R (Kd.int .i64) 3 w11 w.heap.size (fun _ => True) v187 t186) := ⟨by rw [← hq_]; exact (hR_ HO188.out)⟩; have n1_ : Aside0 (w11.heap[gb184]? = some (.cells #[.slice A0_0 l0_0.length c0_0, .int .i64 a0_1, .slice A0_2 l0_2.length c0_2] 29 (0, 0))) := ⟨by rw [← hq_]; exact (hK_ BK184.out)⟩; have n2_ : Aside0 (w11.heap[gb185]? = some (.cells #[.int .i64 0, .int .i64 0] 39 (0, 0))) := ⟨by rw [← hq_]; exact (hK_ BK185.out)⟩; have n3_ : Aside0 (Below w.heap.size w w11) := ⟨by rw [← hq_]; exact hC_⟩; clear HO188 BK184 BK185 HB hq_; have HO188 := n0_; have BK184 := n1_; have BK185 := n2_; have HB := n3_; clear n0_ n1_ n2_ n3_; (try have hcu0_0 := bc0_ BK184.out); (try have hfu0_0 := blk_frozen BK184.out 0); (try have hcu0_1 := bc1_ BK184.out); (try have hfu0_1 := blk_frozen BK184.out 1); (try have hcu0_2 := bc2_ BK184.out); (try have hfu0_2 := blk_frozen BK184.out 2); (try have hcu1_0 := bc0_ BK185.out); (try have hfu1_0 := blk_frozen BK185.out 0); (try have hcu1_1 := bc1_ BK185.out); (try have hfu1_1 := blk_frozen BK185.out 1))); obtain ⟨Ao13, co13, eo13⟩ := Kd.R_slice HO188.out; subst eo13) | ((with_reducible refine gate_callee (f := 21) rfl ?_); refine goesL_ (some 25) rfl rfl Tryd.func21 (by kernel_rfl) rfl #[.int .i64 a0_1, .slice A0_0 l0_0.length c0_0, .slice Ao13 t186.length co13] rfl hL_ ?_; (with_reducible refine (next_Ask.calls k a0_1 _ _ l0_0 _ _ t186 t191 t192 _ ?side1 ?side2 ?side3 ?side4 A6.out (by first | exact hG | exact GOK.below hG hC_)).mono ?_); (case side1 => exact cB_ HR0_0.out); (case side2 => exact HC0_0.out); (case side3 => exact cC_ (Kd.R_reads' HO188.out).2.2); (case side4 => exact (Kd.R_reads' HO188.out).2.1); rintro e w14 ⟨rfl, hb⟩; refine ⟨_, rfl, ?_⟩; have n0_ := Aside0.mk (Kd.R_below (hR_ HO188.out) hb); have n1_ := Aside0.mk (bB_ BK184.out hb); have n2_ := Aside0.mk (bB_ BK185.out hb); have n3_ := Aside0.mk (below_step hC_ hb); clear HO188 BK184 BK185 HB; have HO188 := n0_; have BK184 := n1_; have BK185 := n2_; have HB := n3_; clear n0_ n1_ n2_ n3_; (try clear hb); (try clear hb2); (try clear hk); (try clear hi); obtain ⟨hcz15_0, hcz15_1, hfz15_0, hfz15_1⟩ := bx2_ BK185.out))
  refine bodyPost_ret (results_ct rfl _ _ gb185 39 #[.int .i64 t191, .int .i64 t192] (0, 0) _ rfl (bP_ (bP_ (hK_ BK185.out))) Tryd.underlying39 rfl (by kernel_rfl)) rfl ?_
  exact ⟨hV_, hC_⟩
/-! ### sleuthlaw0_Num: function 11 -/
def sleuthlaw0_Num.f (a0 : Int) : Option (Int) := some a0
set_option maxHeartbeats 8000000 in
set_option maxRecDepth 100000 in
theorem sleuthlaw0_Num.calls (a0 : Int) (r : Int) (w : World) (h : sleuthlaw0_Num.f a0 = some r) :
    Calls Tryd.prog 11 #[.int .i64 a0] w fun e w' => e = .returned (.int .i64 r) ∧ Drawn0 w w' := by
  have H : (some a0) = some r := h
  clear h
  obtain rfl := Option.some.inj H
  go_enter Tryd.func11, Tryd.ntmps11
  go_wp2
  go_ret
  exact ⟨by first | rfl | (simp; done) | (simp [*]; done), by repeat (first | exact Drawn0.refl _ | apply Drawn0.step)⟩

end Go.Proofs.YtgokcaccamfgfaaDoor.G
end
section
-- Laid by the session's own driver gp.py over the kit's printer. Not trusted: Lean checks it.
namespace Go.Proofs.YtgokcaccamfgfaaDoor.G
open Go.RowKit Go.Proofs.YtgokcaccamfgfaaDoorW.PrintWords Go.Proofs.YtgokcaccamfgfaaDoorW.PrintLast Go.Proofs.YtgokcaccamfgfaaDoorW.PrintMore
attribute [local go_sem] max2_int min2_int max_two min_two max_three min_three max_four min_four   -- for this text's walks alone
set_option linter.unusedVariables false
set_option linter.unusedSimpArgs false

/-! ### sleuthlaw0_SameInts: function 13 -/
def sleuthlaw0_SameInts.l0 : Nat → List Int → List Int → Int → Option (Bool)
  | 0, _, _, _ => none
  | k + 1, x0, x1, x5 => if x5 < (x0.length : Int) then (if 0 ≤ x5 then (if x5 < (x1.length : Int) then (if (rd x0 x5) = (rd x1 x5) then (sleuthlaw0_SameInts.l0 k x0 x1 (wrap64 (x5 + 1))) else (some false)) else (none)) else (none)) else (some true)
def sleuthlaw0_SameInts.f (k : Nat) (l0 : List Int) (l1 : List Int) : Option (Bool) := if (l0.length : Int) = (l1.length : Int) then (sleuthlaw0_SameInts.l0 k l0 l1 0) else (some false)
theorem sleuthlaw0_SameInts.mono_l : ∀ k, (∀ y0 y1 y2, LeO (sleuthlaw0_SameInts.l0 k y0 y1 y2) (sleuthlaw0_SameInts.l0 (k + 1) y0 y1 y2))
  | 0 => fun _ _ _ r h => by simp [sleuthlaw0_SameInts.l0] at h
  | k + 1 => by
    have ih0 := sleuthlaw0_SameInts.mono_l k
    · intro y0 y1 y2
      unfold sleuthlaw0_SameInts.l0
      repeat' first
      | (with_reducible exact ih0 _ _ _)
      | (with_reducible exact LeO.refl _)
      | (with_reducible exact LeO.none _)
      | (with_reducible refine LeO.ite ?_ ?_)
      | (with_reducible refine LeO.bind ?_ (fun _ => ?_))
      | exact ih0 _ _ _
      | exact LeO.none _
      | refine LeO.ite ?_ ?_
      | refine LeO.bind ?_ (fun _ => ?_)
theorem sleuthlaw0_SameInts.mono : ∀ a0 a1 k, LeO (sleuthlaw0_SameInts.f k a0 a1) (sleuthlaw0_SameInts.f (k + 1) a0 a1) := by
  intro a0 a1 k
  have ih0 := sleuthlaw0_SameInts.mono_l k
  unfold sleuthlaw0_SameInts.f
  repeat' first
      | (with_reducible exact ih0 _ _ _)
      | (with_reducible exact LeO.refl _)
      | (with_reducible exact LeO.none _)
      | (with_reducible refine LeO.ite ?_ ?_)
      | (with_reducible refine LeO.bind ?_ (fun _ => ?_))
      | exact ih0 _ _ _
      | exact LeO.none _
      | refine LeO.ite ?_ ?_
      | refine LeO.bind ?_ (fun _ => ?_)
set_option maxHeartbeats 8000000 in
set_option maxRecDepth 100000 in
theorem sleuthlaw0_SameInts.calls (k : Nat) (A0 : Option Addr) (c0 : Nat) (l0 : List Int) (A1 : Option Addr) (c1 : Nat) (l1 : List Int) (r : Bool) (w : World) (hr0 : Kd.C (Kd.int .i64) w A0 l0.length l0) (hc0 : l0.length ≤ c0) (hr1 : Kd.C (Kd.int .i64) w A1 l1.length l1) (hc1 : l1.length ≤ c1) (h : sleuthlaw0_SameInts.f k l0 l1 = some r) :
    Calls Tryd.prog 13 #[.slice A0 l0.length c0, .slice A1 l1.length c1] w fun e w' => e = .returned (.bool r) ∧ Drawn0 w w' := by
  have HR0 := Aside0.mk hr0
  have HC0 := Aside0.mk hc0
  clear hr0 hc0
  have HR1 := Aside0.mk hr1
  have HC1 := Aside0.mk hc1
  clear hr1 hc1
  have H : (if (l0.length : Int) = (l1.length : Int) then (sleuthlaw0_SameInts.l0 k l0 l1 0) else (some false)) = some r := h
  clear h
  by_cases c3 : (l0.length : Int) = (l1.length : Int)
  case neg =>
    rw [if_neg c3] at H
    have c3b0 : ((l0.length : Int) == (l1.length : Int)) = false := beq_eq_false_iff_ne.mpr c3
    have c3b1 : ((l0.length : Int) != (l1.length : Int)) = true := bne_iff_ne.mpr c3
    have c3b2 : (l0.length == l1.length) = false := by first | simpa using c3 | (simp at c3 ⊢; omega)
    obtain rfl := Option.some.inj H
    go_enter Tryd.func13, Tryd.ntmps13
    go_wp2
    repeat (go_quiet (fail); try go_wp2)
    go_ret
    exact ⟨by first | rfl | (simp; done) | (simp [*]; done), by repeat (first | exact Drawn0.refl _ | apply Drawn0.step)⟩

  rw [if_pos c3] at H
  have c3b0 : ((l0.length : Int) == (l1.length : Int)) = true := beq_iff_eq.mpr c3
  have c3b1 : ((l0.length : Int) != (l1.length : Int)) = false := bne_eq_false_iff_eq.mpr c3
  have c3b2 : (l0.length == l1.length) = true := by first | simpa using c3 | (simp at c3 ⊢; omega)
  clear c3
  have H' := Aside0.mk H
  clear H
  go_enter Tryd.func13, Tryd.ntmps13
  go_wp2
  repeat (go_quiet (fail); try go_wp2)
  go_loopg [5] k (fun kq v5 w' => ∃ (x5_1 : Int), v5 = .int .i64 x5_1 ∧ Aside0 (sleuthlaw0_SameInts.l0 kq l0 l1 x5_1 = some r) ∧ Aside0 (kq ≤ k) ∧ Drawn0 w w')
  case atStart => exact ⟨(0), hW_, H', ⟨Nat.le_refl _⟩, by repeat (first | exact Drawn0.refl _ | apply Drawn0.step)⟩
  case round =>
    clear H'
    try clear c1
    try clear p2
    try clear c3
    try clear c3b0
    try clear c3b1
    try clear c3b2
    obtain ⟨x5_1, rfl, HA, HK1, ⟨m1, rfl⟩⟩ := hrel
    cases gk with
    | zero => exact absurd HA.out (by simp [sleuthlaw0_SameInts.l0])
    | succ k1 =>
      have H := HA.out
      clear HA
      simp only [sleuthlaw0_SameInts.l0] at H
      by_cases c4 : x5_1 < (l0.length : Int)
      case neg =>
        rw [if_neg c4] at H
        have c4b0 : decide (x5_1 < (l0.length : Int)) = false := decide_eq_false c4
        clear c4
        obtain rfl := Option.some.inj H
        go_wp2
        repeat (go_quiet (fail); try go_wp2)
        go_ret
        exact ⟨by first | rfl | (simp; done) | (simp [*]; done), by repeat (first | exact Drawn0.refl _ | apply Drawn0.step)⟩
      rw [if_pos c4] at H
      have c4b0 : decide (x5_1 < (l0.length : Int)) = true := decide_eq_true c4
      clear c4
      replace H := ifI_ H; obtain ⟨c5, H⟩ := H
      have c5b0 : decide (0 ≤ x5_1) = true := decide_eq_true c5
      clear c5
      replace H := ifI_ H; obtain ⟨c6, H⟩ := H
      have c6b0 : decide (x5_1 < (l1.length : Int)) = true := decide_eq_true c6
      clear c6
      by_cases c7 : (rd l0 x5_1) = (rd l1 x5_1)
      case neg =>
        rw [if_neg c7] at H
        have c7b0 : ((rd l0 x5_1) == (rd l1 x5_1)) = false := beq_eq_false_iff_ne.mpr c7
        have c7b1 : ((rd l0 x5_1) != (rd l1 x5_1)) = true := bne_iff_ne.mpr c7
        obtain rfl := Option.some.inj H
        have p193 : 0 ≤ (x5_1 : Int) := of_decide_eq_true hA_
        have q193 : x5_1 < (l0.length : Int) := of_decide_eq_true hA_
        obtain ⟨ad193, e193, hx193_0⟩ := Kd.at_int HR0.out x5_1 p193 q193
        cases e193
        replace p193 := eq_true p193
        replace q193 := eq_true q193
        have p194 : 0 ≤ (x5_1 : Int) := of_decide_eq_true hA_
        have q194 : x5_1 < (l1.length : Int) := of_decide_eq_true hA_
        obtain ⟨ad194, e194, hx194_0⟩ := Kd.at_int HR1.out x5_1 p194 q194
        cases e194
        replace p194 := eq_true p194
        replace q194 := eq_true q194
        go_wp2
        repeat (go_quiet (fail); try go_wp2)
        go_ret
        exact ⟨by first | rfl | (simp; done) | (simp [*]; done), by repeat (first | exact Drawn0.refl _ | apply Drawn0.step)⟩
      rw [if_pos c7] at H
      have c7b0 : ((rd l0 x5_1) == (rd l1 x5_1)) = true := beq_iff_eq.mpr c7
      have c7b1 : ((rd l0 x5_1) != (rd l1 x5_1)) = false := bne_eq_false_iff_eq.mpr c7
      clear c7
      have H' := Aside0.mk H
      clear H
      have p193 : 0 ≤ (x5_1 : Int) := of_decide_eq_true hA_
      have q193 : x5_1 < (l0.length : Int) := of_decide_eq_true hA_
      obtain ⟨ad193, e193, hx193_0⟩ := Kd.at_int HR0.out x5_1 p193 q193
      cases e193
      replace p193 := eq_true p193
      replace q193 := eq_true q193
      have p194 : 0 ≤ (x5_1 : Int) := of_decide_eq_true hA_
      have q194 : x5_1 < (l1.length : Int) := of_decide_eq_true hA_
      obtain ⟨ad194, e194, hx194_0⟩ := Kd.at_int HR1.out x5_1 p194 q194
      cases e194
      replace p194 := eq_true p194
      replace q194 := eq_true q194
      go_wp2
      repeat (go_quiet (fail); try go_wp2)
      go_roundg k1
      case measure => have := HK1.out; omega
      case rel => exact ⟨(wrap64 (x5_1 + 1)), hW_, H', ⟨by have := HK1.out; omega⟩, by repeat (first | exact Drawn0.refl _ | apply Drawn0.step)⟩
end Go.Proofs.YtgokcaccamfgfaaDoor.G
end
section
-- Laid by the session's own driver gp.py over the kit's printer. Not trusted: Lean checks it.
namespace Go.Proofs.YtgokcaccamfgfaaDoor.G
open Go.RowKit Go.Proofs.YtgokcaccamfgfaaDoorW.PrintWords Go.Proofs.YtgokcaccamfgfaaDoorW.PrintLast Go.Proofs.YtgokcaccamfgfaaDoorW.PrintMore
attribute [local go_sem] max2_int min2_int max_two min_two max_three min_three max_four min_four   -- for this text's walks alone
set_option linter.unusedVariables false
set_option linter.unusedSimpArgs false

attribute [local go_sem high] eqA39
/-! ### sleuthlaw20_awake: function 7 -/
def sleuthlaw20_awake.f (k : Nat)  : Option (Bool) := (sleuthlaw20_some.f).bind fun t195 => ((some (([(⟨0, 2⟩ : S26), (⟨1, 1⟩ : S26)] : List (S26)) : List (S26))).bind fun y198 => ((next_Marks.f k t195 0 y198).bind fun bt202 => ((next_Step.f k t195 0 y198).bind fun bt206 => ((next_Step.f k t195 2 y198).bind fun bt210 => (if 0 < (y198.length : Int) then ((next_Marks.f k t195 2 (y198.set (0 : Int).toNat (⟨(rd_T26 y198 0).f0, 0⟩ : S26))).bind fun bt215 => ((sleuthlaw0_SameInts.f k bt202.1 (([2, 1, 0, 0, 0] : List Int))).bind fun t222 => (if t222 = true then ((sleuthlaw0_Num.f bt202.2).bind fun t223 => (if t223 = 0 then (if (bt206.1 == 0 && (bt206.2.1 == 2)) = true then ((sleuthlaw0_Num.f bt206.2.2).bind fun t224 => (if t224 = 0 then ((sleuthlaw0_Num.f bt210.2.2).bind fun t225 => (if t225 = 2000 then ((sleuthlaw0_Num.f bt215.2).bind fun t226 => (some (t226 == 2000))) else (none))) else (none))) else (none)) else (none))) else (none)))) else (none))))))
theorem sleuthlaw20_awake.mono : ∀ k, LeO (sleuthlaw20_awake.f k ) (sleuthlaw20_awake.f (k + 1) ) := by
  intro  k
  unfold sleuthlaw20_awake.f
  repeat' first
      | (with_reducible exact next_Marks.mono _ _ _ _)
      | (with_reducible exact next_Step.mono _ _ _ _)
      | (with_reducible exact sleuthlaw0_SameInts.mono _ _ _)
      | (with_reducible exact LeO.refl _)
      | (with_reducible exact LeO.none _)
      | (with_reducible refine LeO.ite ?_ ?_)
      | (with_reducible refine LeO.bind ?_ (fun _ => ?_))
      | exact next_Marks.mono _ _ _ _
      | exact next_Step.mono _ _ _ _
      | exact sleuthlaw0_SameInts.mono _ _ _
      | exact LeO.none _
      | refine LeO.ite ?_ ?_
      | refine LeO.bind ?_ (fun _ => ?_)
set_option maxHeartbeats 8000000 in
set_option maxRecDepth 100000 in
theorem sleuthlaw20_awake.calls (k : Nat)  (r : Bool) (w : World) (h : sleuthlaw20_awake.f k  = some r) (hG : GOK w) :
    Calls Tryd.prog 7 #[] w fun e w' => e = .returned (.bool r) ∧ Below w.heap.size w w' := by
  have hu26 := Tryd.underlying26
  have hu29 := Tryd.underlying29
  have hu39 := Tryd.underlying39
  have HB := Aside0.mk (Below.refl w.heap.size w)
  have H : ((sleuthlaw20_some.f).bind fun t195 => ((some (([(⟨0, 2⟩ : S26), (⟨1, 1⟩ : S26)] : List (S26)) : List (S26))).bind fun y198 => ((next_Marks.f k t195 0 y198).bind fun bt202 => ((next_Step.f k t195 0 y198).bind fun bt206 => ((next_Step.f k t195 2 y198).bind fun bt210 => (if 0 < (y198.length : Int) then ((next_Marks.f k t195 2 (y198.set (0 : Int).toNat (⟨(rd_T26 y198 0).f0, 0⟩ : S26))).bind fun bt215 => ((sleuthlaw0_SameInts.f k bt202.1 (([2, 1, 0, 0, 0] : List Int))).bind fun t222 => (if t222 = true then ((sleuthlaw0_Num.f bt202.2).bind fun t223 => (if t223 = 0 then (if (bt206.1 == 0 && (bt206.2.1 == 2)) = true then ((sleuthlaw0_Num.f bt206.2.2).bind fun t224 => (if t224 = 0 then ((sleuthlaw0_Num.f bt210.2.2).bind fun t225 => (if t225 = 2000 then ((sleuthlaw0_Num.f bt215.2).bind fun t226 => (some (t226 == 2000))) else (none))) else (none))) else (none)) else (none))) else (none)))) else (none))))))) = some r := h
  clear h
  replace H := Option.bind_eq_some_iff.mp H
  obtain ⟨t195, A10, H⟩ := H
  replace H : ((some (([(⟨0, 2⟩ : S26), (⟨1, 1⟩ : S26)] : List (S26)) : List (S26))).bind fun y198 => ((next_Marks.f k t195 0 y198).bind fun bt202 => ((next_Step.f k t195 0 y198).bind fun bt206 => ((next_Step.f k t195 2 y198).bind fun bt210 => (if 0 < (y198.length : Int) then ((next_Marks.f k t195 2 (y198.set (0 : Int).toNat (⟨(rd_T26 y198 0).f0, 0⟩ : S26))).bind fun bt215 => ((sleuthlaw0_SameInts.f k bt202.1 (([2, 1, 0, 0, 0] : List Int))).bind fun t222 => (if t222 = true then ((sleuthlaw0_Num.f bt202.2).bind fun t223 => (if t223 = 0 then (if (bt206.1 == 0 && (bt206.2.1 == 2)) = true then ((sleuthlaw0_Num.f bt206.2.2).bind fun t224 => (if t224 = 0 then ((sleuthlaw0_Num.f bt210.2.2).bind fun t225 => (if t225 = 2000 then ((sleuthlaw0_Num.f bt215.2).bind fun t226 => (some (t226 == 2000))) else (none))) else (none))) else (none)) else (none))) else (none)))) else (none)))))) = some r := H
  have A1 := Aside0.mk A10
  clear A10
  obtain ⟨y198, hy198⟩ : ∃ y_ : List (S26), y_ = (([(⟨0, 2⟩ : S26), (⟨1, 1⟩ : S26)] : List (S26))) := ⟨_, rfl⟩
  replace H : ((next_Marks.f k t195 0 y198).bind fun bt202 => ((next_Step.f k t195 0 y198).bind fun bt206 => ((next_Step.f k t195 2 y198).bind fun bt210 => (if 0 < (y198.length : Int) then ((next_Marks.f k t195 2 (y198.set (0 : Int).toNat (⟨(rd_T26 y198 0).f0, 0⟩ : S26))).bind fun bt215 => ((sleuthlaw0_SameInts.f k bt202.1 (([2, 1, 0, 0, 0] : List Int))).bind fun t222 => (if t222 = true then ((sleuthlaw0_Num.f bt202.2).bind fun t223 => (if t223 = 0 then (if (bt206.1 == 0 && (bt206.2.1 == 2)) = true then ((sleuthlaw0_Num.f bt206.2.2).bind fun t224 => (if t224 = 0 then ((sleuthlaw0_Num.f bt210.2.2).bind fun t225 => (if t225 = 2000 then ((sleuthlaw0_Num.f bt215.2).bind fun t226 => (some (t226 == 2000))) else (none))) else (none))) else (none)) else (none))) else (none)))) else (none))))) = some r := by first | (rw [hy198]; with_reducible exact H) | (have H2_ := (Option.bind_some _ _).symm.trans H; rw [hy198]; with_reducible exact H2_) | (have H2_ := (Option.bind_some _ _).symm.trans H; with_reducible exact H2_) | with_reducible exact H | (rw [hy198]; exact H) | exact H
  have Ny198 := Aside0.mk hy198
  clear hy198
  replace H := Option.bind_eq_some_iff.mp H
  obtain ⟨⟨t202, t205⟩, A20, H⟩ := H
  replace H : ((next_Step.f k t195 0 y198).bind fun bt206 => ((next_Step.f k t195 2 y198).bind fun bt210 => (if 0 < (y198.length : Int) then ((next_Marks.f k t195 2 (y198.set (0 : Int).toNat (⟨(rd_T26 y198 0).f0, 0⟩ : S26))).bind fun bt215 => ((sleuthlaw0_SameInts.f k t202 (([2, 1, 0, 0, 0] : List Int))).bind fun t222 => (if t222 = true then ((sleuthlaw0_Num.f t205).bind fun t223 => (if t223 = 0 then (if (bt206.1 == 0 && (bt206.2.1 == 2)) = true then ((sleuthlaw0_Num.f bt206.2.2).bind fun t224 => (if t224 = 0 then ((sleuthlaw0_Num.f bt210.2.2).bind fun t225 => (if t225 = 2000 then ((sleuthlaw0_Num.f bt215.2).bind fun t226 => (some (t226 == 2000))) else (none))) else (none))) else (none)) else (none))) else (none)))) else (none)))) = some r := H
  have A2 := Aside0.mk A20
  clear A20
  replace H := Option.bind_eq_some_iff.mp H
  obtain ⟨⟨t206, t207, t208⟩, A30, H⟩ := H
  replace H : ((next_Step.f k t195 2 y198).bind fun bt210 => (if 0 < (y198.length : Int) then ((next_Marks.f k t195 2 (y198.set (0 : Int).toNat (⟨(rd_T26 y198 0).f0, 0⟩ : S26))).bind fun bt215 => ((sleuthlaw0_SameInts.f k t202 (([2, 1, 0, 0, 0] : List Int))).bind fun t222 => (if t222 = true then ((sleuthlaw0_Num.f t205).bind fun t223 => (if t223 = 0 then (if (t206 == 0 && (t207 == 2)) = true then ((sleuthlaw0_Num.f t208).bind fun t224 => (if t224 = 0 then ((sleuthlaw0_Num.f bt210.2.2).bind fun t225 => (if t225 = 2000 then ((sleuthlaw0_Num.f bt215.2).bind fun t226 => (some (t226 == 2000))) else (none))) else (none))) else (none)) else (none))) else (none)))) else (none))) = some r := H
  have A3 := Aside0.mk A30
  clear A30
  replace H := Option.bind_eq_some_iff.mp H
  obtain ⟨⟨t210, t211, t212⟩, A40, H⟩ := H
  replace H : (if 0 < (y198.length : Int) then ((next_Marks.f k t195 2 (y198.set (0 : Int).toNat (⟨(rd_T26 y198 0).f0, 0⟩ : S26))).bind fun bt215 => ((sleuthlaw0_SameInts.f k t202 (([2, 1, 0, 0, 0] : List Int))).bind fun t222 => (if t222 = true then ((sleuthlaw0_Num.f t205).bind fun t223 => (if t223 = 0 then (if (t206 == 0 && (t207 == 2)) = true then ((sleuthlaw0_Num.f t208).bind fun t224 => (if t224 = 0 then ((sleuthlaw0_Num.f t212).bind fun t225 => (if t225 = 2000 then ((sleuthlaw0_Num.f bt215.2).bind fun t226 => (some (t226 == 2000))) else (none))) else (none))) else (none)) else (none))) else (none)))) else (none)) = some r := H
  have A4 := Aside0.mk A40
  clear A40
  replace H := ifI_ H; obtain ⟨c5, H⟩ := H
  have c5b0 : decide (0 < (y198.length : Int)) = true := decide_eq_true c5
  have c5b1 : decide (0 < y198.length) = true := decide_eq_true (by omega)
  clear c5
  obtain ⟨y214, hy214⟩ : ∃ y_ : List (S26), y_ = (y198.set (0 : Int).toNat (⟨(rd_T26 y198 0).f0, 0⟩ : S26)) := ⟨_, rfl⟩
  replace H : ((next_Marks.f k t195 2 y214).bind fun bt215 => ((sleuthlaw0_SameInts.f k t202 (([2, 1, 0, 0, 0] : List Int))).bind fun t222 => (if t222 = true then ((sleuthlaw0_Num.f t205).bind fun t223 => (if t223 = 0 then (if (t206 == 0 && (t207 == 2)) = true then ((sleuthlaw0_Num.f t208).bind fun t224 => (if t224 = 0 then ((sleuthlaw0_Num.f t212).bind fun t225 => (if t225 = 2000 then ((sleuthlaw0_Num.f bt215.2).bind fun t226 => (some (t226 == 2000))) else (none))) else (none))) else (none)) else (none))) else (none)))) = some r := by first | (rw [hy214]; with_reducible exact H) | (have H2_ := (Option.bind_some _ _).symm.trans H; rw [hy214]; with_reducible exact H2_) | (have H2_ := (Option.bind_some _ _).symm.trans H; with_reducible exact H2_) | with_reducible exact H | (rw [hy214]; exact H) | exact H
  have Ny214 := Aside0.mk hy214
  clear hy214
  replace H := Option.bind_eq_some_iff.mp H
  obtain ⟨⟨t215, t218⟩, A70, H⟩ := H
  replace H : ((sleuthlaw0_SameInts.f k t202 (([2, 1, 0, 0, 0] : List Int))).bind fun t222 => (if t222 = true then ((sleuthlaw0_Num.f t205).bind fun t223 => (if t223 = 0 then (if (t206 == 0 && (t207 == 2)) = true then ((sleuthlaw0_Num.f t208).bind fun t224 => (if t224 = 0 then ((sleuthlaw0_Num.f t212).bind fun t225 => (if t225 = 2000 then ((sleuthlaw0_Num.f t218).bind fun t226 => (some (t226 == 2000))) else (none))) else (none))) else (none)) else (none))) else (none))) = some r := H
  have A7 := Aside0.mk A70
  clear A70
  obtain ⟨y219, hy219⟩ : ∃ y_ : List Int, y_ = (([2, 1, 0, 0, 0] : List Int)) := ⟨_, rfl⟩
  replace H : ((sleuthlaw0_SameInts.f k t202 y219).bind fun t222 => (if t222 = true then ((sleuthlaw0_Num.f t205).bind fun t223 => (if t223 = 0 then (if (t206 == 0 && (t207 == 2)) = true then ((sleuthlaw0_Num.f t208).bind fun t224 => (if t224 = 0 then ((sleuthlaw0_Num.f t212).bind fun t225 => (if t225 = 2000 then ((sleuthlaw0_Num.f t218).bind fun t226 => (some (t226 == 2000))) else (none))) else (none))) else (none)) else (none))) else (none))) = some r := by first | (rw [hy219]; with_reducible exact H) | (have H2_ := (Option.bind_some _ _).symm.trans H; rw [hy219]; with_reducible exact H2_) | (have H2_ := (Option.bind_some _ _).symm.trans H; with_reducible exact H2_) | with_reducible exact H | (rw [hy219]; exact H) | exact H
  have Ny219 := Aside0.mk hy219
  clear hy219
  replace H := Option.bind_eq_some_iff.mp H
  obtain ⟨t222, A80, H⟩ := H
  replace H : (if t222 = true then ((sleuthlaw0_Num.f t205).bind fun t223 => (if t223 = 0 then (if (t206 == 0 && (t207 == 2)) = true then ((sleuthlaw0_Num.f t208).bind fun t224 => (if t224 = 0 then ((sleuthlaw0_Num.f t212).bind fun t225 => (if t225 = 2000 then ((sleuthlaw0_Num.f t218).bind fun t226 => (some (t226 == 2000))) else (none))) else (none))) else (none)) else (none))) else (none)) = some r := H
  have A8 := Aside0.mk A80
  clear A80
  by_cases c9 : t222 = true
  case neg =>
    replace c9 := Bool.eq_false_iff.mpr c9
    subst c9
    have H1 : (none) = some r := by rw [if_neg (show ¬ (false = true) by decide)] at H; exact H
    clear H
    have H := H1
    clear H1
    cases H
  subst c9
  have H1 : ((sleuthlaw0_Num.f t205).bind fun t223 => (if t223 = 0 then (if (t206 == 0 && (t207 == 2)) = true then ((sleuthlaw0_Num.f t208).bind fun t224 => (if t224 = 0 then ((sleuthlaw0_Num.f t212).bind fun t225 => (if t225 = 2000 then ((sleuthlaw0_Num.f t218).bind fun t226 => (some (t226 == 2000))) else (none))) else (none))) else (none)) else (none))) = some r := by rw [if_pos rfl] at H; exact H
  clear H
  have H := H1
  clear H1
  replace H := Option.bind_eq_some_iff.mp H
  obtain ⟨t223, A100, H⟩ := H
  replace H : (if t223 = 0 then (if (t206 == 0 && (t207 == 2)) = true then ((sleuthlaw0_Num.f t208).bind fun t224 => (if t224 = 0 then ((sleuthlaw0_Num.f t212).bind fun t225 => (if t225 = 2000 then ((sleuthlaw0_Num.f t218).bind fun t226 => (some (t226 == 2000))) else (none))) else (none))) else (none)) else (none)) = some r := H
  have A10 := Aside0.mk A100
  clear A100
  by_cases c11 : t223 = 0
  case neg =>
    rw [if_neg c11] at H
    have c11b0 : (t223 == 0) = false := beq_eq_false_iff_ne.mpr c11
    have c11b1 : (t223 != 0) = true := bne_iff_ne.mpr c11
    cases H
  rw [if_pos c11] at H
  have c11b0 : (t223 == 0) = true := beq_iff_eq.mpr c11
  have c11b1 : (t223 != 0) = false := bne_eq_false_iff_eq.mpr c11
  clear c11
  by_cases c12 : (t206 == 0 && (t207 == 2)) = true
  case neg =>
    rw [if_neg c12] at H
    have c12b0 : (t206 == 0 && (t207 == 2)) = false := by simpa using c12
    (try (have c12b1 : decide (t206 = 0 && (t207 == 2)) = false := by simpa using c12))
    (try (have c12b2 : (t206 == 0 && (t207 == 2)) = false := by simpa using c12))
    (try (have c12b3 : ¬ (t206 = 0 && (t207 == 2)) := by simpa using c12))
    clear c12
    cases H
  rw [if_pos c12] at H
  have c12b0 : (t206 == 0 && (t207 == 2)) = true := c12
  (try (have c12b1 : decide (t206 = 0 && (t207 == 2)) = true := by simpa using c12))
  (try (have c12b2 : (t206 == 0 && (t207 == 2)) = true := by simpa using c12))
  clear c12
  replace H := Option.bind_eq_some_iff.mp H
  obtain ⟨t224, A130, H⟩ := H
  replace H : (if t224 = 0 then ((sleuthlaw0_Num.f t212).bind fun t225 => (if t225 = 2000 then ((sleuthlaw0_Num.f t218).bind fun t226 => (some (t226 == 2000))) else (none))) else (none)) = some r := H
  have A13 := Aside0.mk A130
  clear A130
  by_cases c14 : t224 = 0
  case neg =>
    rw [if_neg c14] at H
    have c14b0 : (t224 == 0) = false := beq_eq_false_iff_ne.mpr c14
    have c14b1 : (t224 != 0) = true := bne_iff_ne.mpr c14
    cases H
  rw [if_pos c14] at H
  have c14b0 : (t224 == 0) = true := beq_iff_eq.mpr c14
  have c14b1 : (t224 != 0) = false := bne_eq_false_iff_eq.mpr c14
  clear c14
  replace H := Option.bind_eq_some_iff.mp H
  obtain ⟨t225, A150, H⟩ := H
  replace H : (if t225 = 2000 then ((sleuthlaw0_Num.f t218).bind fun t226 => (some (t226 == 2000))) else (none)) = some r := H
  have A15 := Aside0.mk A150
  clear A150
  by_cases c16 : t225 = 2000
  case neg =>
    rw [if_neg c16] at H
    have c16b0 : (t225 == 2000) = false := beq_eq_false_iff_ne.mpr c16
    have c16b1 : (t225 != 2000) = true := bne_iff_ne.mpr c16
    cases H
  rw [if_pos c16] at H
  have c16b0 : (t225 == 2000) = true := beq_iff_eq.mpr c16
  have c16b1 : (t225 != 2000) = false := bne_eq_false_iff_eq.mpr c16
  clear c16
  replace H := Option.bind_eq_some_iff.mp H
  obtain ⟨t226, A170, H⟩ := H
  replace H : (some (t226 == 2000)) = some r := H
  have A17 := Aside0.mk A170
  clear A170
  obtain rfl := Option.some.inj H
  go_enter Tryd.func7, Tryd.ntmps7
  go_wp2_with (first | ((with_reducible refine gate_callee (f := 8) rfl ?_); refine goesL_ (some 10) rfl rfl Tryd.func8 (by kernel_rfl) rfl #[] rfl hL_ ?_; (with_reducible refine (sleuthlaw20_some.calls  t195 _ A1.out).mono ?_); rintro e w18 ⟨v196, rfl, ho0, hb⟩; refine ⟨_, rfl, ?_⟩; have n0_ := Aside0.mk (Kd.N_lower (Kd.N_mono (ok' := fun k_ => True) ho0 (fun k_ hk_ => trivial)) hS_); have n1_ := Aside0.mk (below_step hB_ hb); clear HB; have HO197 := n0_; have HB := n1_; clear n0_ n1_; (try clear hb); (try clear hb2); (try clear hk); (try clear hi); (try clear ho0)) | ((with_reducible refine gate_dst (N := 13) rfl ?_); refine Kd.R_lit k26 _ 26 ?hg (N := 13) ?hd (xs := ([(⟨0, 2⟩ : S26), (⟨1, 1⟩ : S26)] : List (S26))) (inner := [.int .i64 0, .int .i64 2, .int .i64 1, .int .i64 1]) (ok := fun _ => True) (okp := fun _ => True) ?hr ?hp (fun _ hk => hk) trivial (Below.refl _ _) (Nat.le_refl _) (by simp) ?_; (case hd => rfl); (case hg => rfl); (case hr => first | (go_simp; done) | (go_simp; rfl)); (case hp => exact (Reps.c2 (show Kd.M k26 _ _ _ (⟨0, 2⟩ : S26) [.int .i64 0, .int .i64 2] from (k26_mkM _ _ _ (⟨0, 2⟩ : S26) )) (Reps.c2 (show Kd.M k26 _ _ _ (⟨1, 1⟩ : S26) [.int .i64 1, .int .i64 1] from (k26_mkM _ _ _ (⟨1, 1⟩ : S26) )) (Reps.none _ _)))); intro v199 w19 ho20 hb hg_ hnew_; clear hg_ hnew_; (first | rw [← Ny198.out] at ho20 | (simp only [Int.reduceToNat] at ho20; rw [← Ny198.out] at ho20)); have n0_ := Aside0.mk (Kd.N_elder' (hN_ HO197.out) (Kd.R_base ho20) hb); have n1_ := Aside0.mk (Kd.R_lower ho20 hS_); have n2_ := Aside0.mk (below_step hB_ hb); clear HO197 HB; have HO197 := n0_; have HO200 := n1_; have HB := n2_; clear n0_ n1_ n2_; clear hb ho20; obtain ⟨Ao21, co21, eo21⟩ := Kd.R_slice HO200.out; subst eo21; obtain ⟨Ao22, co22, eo22⟩ := Kd.N_slice HO197.out; subst eo22) | ((with_reducible refine gate_dst (N := 1) rfl ?_); refine boxE_ 1 #[.slice none 0 0, .int .i64 0, .slice none 0 0] 29 ?_; intro gb201 hg w23 hbox hb; have n0_ := Aside0.mk (Kd.N_below (Kd.N_elderB (hN_ HO197.out) gb201 (Nat.le_of_eq hg.symm)) hb); have n1_ := Aside0.mk (Kd.R_below (hR_ HO200.out) hb); have n2_ := Aside0.mk (below_step hB_ hb); have n3_ := Aside0.mk (hbox); have n4_ := Aside0.mk ((gE_ hg : w.heap.size ≤ gb201)); have n5_ := Aside0.mk ((gE_ hg : w.heap.size ≤ gb201)); clear HO197 HO200 HB; have HO197 := n0_; have HO200 := n1_; have HB := n2_; have BK201 := n3_; have GW201 := n4_; have GE201 := n5_; clear n0_ n1_ n2_ n3_ n4_ n5_; clear hb hbox hg; obtain ⟨hcz24_0, hcz24_1, hcz24_2, hfz24_0, hfz24_1, hfz24_2⟩ := bx3_ BK201.out) | ((with_reducible refine gate_callee (f := 9) rfl ?_); refine goesL_ (some 17) rfl rfl Tryd.func9 (by kernel_rfl) rfl #[.agg #[.slice Ao22 t195.length co22, .int .i64 0, .slice Ao21 y198.length co21]] rfl hL_ ?_; (with_reducible refine (next_Marks.calls k _ _ t195 0 _ _ y198 t202 t205 _ ?side1 ?side2 ?side3 ?side4 A2.out (by first | exact hG | exact GOK.below hG hC_)).mono ?_); (case side1 => refine (Kd.N_reads' (e := 33) (base := w.heap.size) (ok := fun k_ => ((True ∧ some k_ ≠ (.slice Ao21 y198.length co21 : Value).ownBlock) ∧ k_ ≠ gb201)) (n := t195.length) (c := co22) ?_).2.2; exact (by (with_reducible repeat (first | apply Kd.N_alloc | apply Kd.N_drewN | apply Kd.N_drew)); exact (Kd.N_mono (nF_ (nF_ (nF_ (Kd.N_mono HO197.out (fun k_ hk => (⟨hk, hk.2⟩ : _ ∧ k_ ≠ gb201)))))) (fun _ h_ => h_.1)))); (case side2 => exact (Kd.N_reads' HO197.out).2.1); (case side3 => refine (Kd.R_reads' (e := 26) (base := w.heap.size) (ok := fun k_ => True) (n := y198.length) (c := co21) ?_).2.2; exact (by (with_reducible repeat (first | apply Kd.R_alloc | apply Kd.R_drewN | apply Kd.R_drew)); exact (Kd.R_mono (rF_ (rF_ (rF_ (Kd.R_types HO200.out BK201.out (by decide))))) (fun _ h_ => h_.1)))); (case side4 => exact (Kd.R_reads' HO200.out).2.1); rintro e w25 ⟨v203, rfl, ho0, hb⟩; refine ⟨_, rfl, ?_⟩; have n0_ := Aside0.mk (Kd.N_elder' (by (with_reducible repeat (first | apply Kd.N_alloc | apply Kd.N_drewN | apply Kd.N_drew)); exact (Kd.N_mono (nF_ (nF_ (nF_ (Kd.N_mono HO197.out (fun k_ hk => (⟨hk, hk.2⟩ : _ ∧ k_ ≠ gb201)))))) (fun _ h_ => h_.1))) (Kd.R_base ho0) hb); have n1_ := Aside0.mk (Kd.R_below (by (with_reducible repeat (first | apply Kd.R_alloc | apply Kd.R_drewN | apply Kd.R_drew)); exact (Kd.R_mono (rF_ (rF_ (rF_ (Kd.R_types HO200.out BK201.out (by decide))))) (fun _ h_ => h_.1))) hb); have n2_ := Aside0.mk (Kd.R_lower ho0 (below_size hC_)); have n3_ := Aside0.mk (blk_below (g := gb201) (o := .cells #[.slice Ao22 t195.length co22, .int .i64 0, .slice Ao21 y198.length co21] 29 (0, 0)) (bP_ (bP_ (bP_ (hK_ BK201.out)))) hb); have n4_ := Aside0.mk (below_step hC_ hb); clear HO197 HO200 BK201 HB; have HO197 := n0_; have HO200 := n1_; have HO204 := n2_; have BK201 := n3_; have HB := n4_; clear n0_ n1_ n2_ n3_ n4_; (try clear hb); (try clear hb2); (try clear hk); (try clear hi); (try clear ho0); obtain ⟨hcz26_0, hcz26_1, hcz26_2, hfz26_0, hfz26_1, hfz26_2⟩ := bx3_ BK201.out) | ((with_reducible refine gate_callee (f := 10) rfl ?_); refine goesL_ (some 22) rfl rfl Tryd.func10 (by kernel_rfl) rfl #[.agg #[.slice Ao22 t195.length co22, .int .i64 0, .slice Ao21 y198.length co21]] rfl hL_ ?_; (with_reducible refine (next_Step.calls k _ _ t195 0 _ _ y198 t206 t207 t208 _ ?side1 ?side2 ?side3 ?side4 A3.out (by first | exact hG | exact GOK.below hG hC_)).mono ?_); (case side1 => repeat (first | exact (Kd.N_reads' HO197.out).2.2 | (with_reducible refine Kd.C_alloc ?_ _) | (with_reducible refine Kd.C_drewN ?_ _) | (with_reducible refine Kd.C_drew ?_))); (case side2 => exact (Kd.N_reads' HO197.out).2.1); (case side3 => exact cC_ (Kd.R_reads' HO200.out).2.2); (case side4 => exact (Kd.R_reads' HO200.out).2.1); rintro e w27 ⟨rfl, hb⟩; refine ⟨_, rfl, ?_⟩; have n0_ := Aside0.mk (Kd.N_below (hN_ HO197.out) hb); have n1_ := Aside0.mk (Kd.R_below (hR_ HO200.out) hb); have n2_ := Aside0.mk (Kd.R_below (hR_ HO204.out) hb); have n3_ := Aside0.mk (bB_ BK201.out hb); have n4_ := Aside0.mk (below_step hC_ hb); clear HO197 HO200 HO204 BK201 HB; have HO197 := n0_; have HO200 := n1_; have HO204 := n2_; have BK201 := n3_; have HB := n4_; clear n0_ n1_ n2_ n3_ n4_; (try clear hb); (try clear hb2); (try clear hk); (try clear hi)) | ((with_reducible refine gate_dst (N := 4) rfl ?_); refine boxE_ 4 #[.int .i64 0, .int .i64 0] 39 ?_; intro gb209 hg w28 hbox hb; have n0_ := Aside0.mk (Kd.N_below (Kd.N_elderB (hN_ HO197.out) gb209 (Nat.le_of_eq hg.symm)) hb); have n1_ := Aside0.mk (Kd.R_below (hR_ HO200.out) hb); have n2_ := Aside0.mk (Kd.R_below (hR_ HO204.out) hb); have n3_ := Aside0.mk (bB_ BK201.out hb); have n4_ := Aside0.mk (below_step hC_ hb); have n5_ := Aside0.mk (hbox); have n6_ := Aside0.mk ((gE_ hg : w.heap.size ≤ gb209)); have n7_ := Aside0.mk ((gE_ hg : w.heap.size ≤ gb209)); have n8_ := Aside0.mk ((bL_ BK201.out hg : gb201 ≠ gb209)); have n9_ := Aside0.mk ((bG_ BK201.out hg : gb209 ≠ gb201)); clear HO197 HO200 HO204 BK201 HB; have HO197 := n0_; have HO200 := n1_; have HO204 := n2_; have BK201 := n3_; have HB := n4_; have BK209 := n5_; have GW209 := n6_; have GE209 := n7_; have NB201_209 := n8_; have NB209_201 := n9_; clear n0_ n1_ n2_ n3_ n4_ n5_ n6_ n7_ n8_ n9_; clear hb hbox hg; have hnb29 := NB209_201.out; have hnc29 := NB201_209.out; obtain ⟨hcz30_0, hcz30_1, hfz30_0, hfz30_1⟩ := bx2_ BK209.out; obtain ⟨hcz31_0, hcz31_1, hcz31_2, hfz31_0, hfz31_1, hfz31_2⟩ := bx3_ BK201.out) | ((with_reducible refine gate_callee (f := 10) rfl ?_); refine goesL_ (some 28) rfl rfl Tryd.func10 (by kernel_rfl) rfl #[.agg #[.slice Ao22 t195.length co22, .int .i64 2, .slice Ao21 y198.length co21]] rfl hL_ ?_; (with_reducible refine (next_Step.calls k _ _ t195 2 _ _ y198 t210 t211 t212 _ ?side1 ?side2 ?side3 ?side4 A4.out (by first | exact hG | exact GOK.below hG hC_)).mono ?_); (case side1 => refine (Kd.N_reads' (e := 33) (base := w.heap.size) (ok := fun k_ => ((((True ∧ some k_ ≠ (.slice Ao21 y198.length co21 : Value).ownBlock) ∧ k_ ≠ gb201) ∧ some k_ ≠ (v203 : Value).ownBlock) ∧ k_ ≠ gb209)) (n := t195.length) (c := co22) ?_).2.2; exact (by (with_reducible repeat (first | apply Kd.N_alloc | apply Kd.N_drewN | apply Kd.N_drew)); exact (Kd.N_mono (Kd.N_mono (nF_ (Kd.N_far (p := ⟨gb209, 1, none⟩) (Kd.N_far (p := ⟨gb209, 0, none⟩) (Kd.N_mono (Kd.N_mono HO197.out (fun k_ hk => (⟨hk, hk.2⟩ : _ ∧ k_ ≠ gb209))) (fun k_ hk => (⟨hk, hk.1.1.1.2⟩ : _ ∧ k_ ≠ gb201))) (fun _ hk => hk.1.2) (.int .i64 t206)) (fun _ hk => hk.1.2) (.int .i64 t207))) (fun _ h_ => h_.1)) (fun _ h_ => h_.1)))); (case side2 => exact (Kd.N_reads' HO197.out).2.1); (case side3 => refine (Kd.R_reads' (e := 26) (base := w.heap.size) (ok := fun k_ => True) (n := y198.length) (c := co21) ?_).2.2; exact (by (with_reducible repeat (first | apply Kd.R_alloc | apply Kd.R_drewN | apply Kd.R_drew)); exact (Kd.R_mono (Kd.R_mono (rF_ (Kd.R_far (p := ⟨gb209, 1, none⟩) (Kd.R_far (p := ⟨gb209, 0, none⟩) (Kd.R_types (Kd.R_types HO200.out BK209.out (by decide)) BK201.out (by decide)) (fun _ hk => hk.1.2) (.int .i64 t206)) (fun _ hk => hk.1.2) (.int .i64 t207))) (fun _ h_ => h_.1)) (fun _ h_ => h_.1)))); (case side4 => exact (Kd.R_reads' HO200.out).2.1); rintro e w32 ⟨rfl, hb⟩; refine ⟨_, rfl, ?_⟩; have n0_ := Aside0.mk (Kd.N_below (by (with_reducible repeat (first | apply Kd.N_alloc | apply Kd.N_drewN | apply Kd.N_drew)); exact (Kd.N_mono (Kd.N_mono (nF_ (Kd.N_far (p := ⟨gb209, 1, none⟩) (Kd.N_far (p := ⟨gb209, 0, none⟩) (Kd.N_mono (Kd.N_mono HO197.out (fun k_ hk => (⟨hk, hk.2⟩ : _ ∧ k_ ≠ gb209))) (fun k_ hk => (⟨hk, hk.1.1.1.2⟩ : _ ∧ k_ ≠ gb201))) (fun _ hk => hk.1.2) (.int .i64 t206)) (fun _ hk => hk.1.2) (.int .i64 t207))) (fun _ h_ => h_.1)) (fun _ h_ => h_.1))) hb); have n1_ := Aside0.mk (Kd.R_below (by (with_reducible repeat (first | apply Kd.R_alloc | apply Kd.R_drewN | apply Kd.R_drew)); exact (Kd.R_mono (Kd.R_mono (rF_ (Kd.R_far (p := ⟨gb209, 1, none⟩) (Kd.R_far (p := ⟨gb209, 0, none⟩) (Kd.R_types (Kd.R_types HO200.out BK209.out (by decide)) BK201.out (by decide)) (fun _ hk => hk.1.2) (.int .i64 t206)) (fun _ hk => hk.1.2) (.int .i64 t207))) (fun _ h_ => h_.1)) (fun _ h_ => h_.1))) hb); have n2_ := Aside0.mk (Kd.R_below (by (with_reducible repeat (first | apply Kd.R_alloc | apply Kd.R_drewN | apply Kd.R_drew)); exact (Kd.R_mono (Kd.R_mono (rF_ (Kd.R_far (p := ⟨gb209, 1, none⟩) (Kd.R_far (p := ⟨gb209, 0, none⟩) (Kd.R_types (Kd.R_types HO204.out BK209.out (by decide)) BK201.out (by decide)) (fun _ hk => hk.1.2) (.int .i64 t206)) (fun _ hk => hk.1.2) (.int .i64 t207))) (fun _ h_ => h_.1)) (fun _ h_ => h_.1))) hb); have n3_ := Aside0.mk (blk_below (g := gb201) (o := .cells #[.slice Ao22 t195.length co22, .int .i64 2, .slice Ao21 y198.length co21] 29 (0, 0)) (bP_ (bF_ (bF_ (hK_ BK201.out) NB201_209.out) NB201_209.out)) hb); have n4_ := Aside0.mk (blk_below (g := gb209) (o := .cells #[.int .i64 t206, .int .i64 t207] 39 (0, 0)) (bF_ (bP_ (bP_ (hK_ BK209.out))) NB209_201.out) hb); have n5_ := Aside0.mk (below_step hC_ hb); clear HO197 HO200 HO204 BK201 BK209 HB; have HO197 := n0_; have HO200 := n1_; have HO204 := n2_; have BK201 := n3_; have BK209 := n4_; have HB := n5_; clear n0_ n1_ n2_ n3_ n4_ n5_; (try clear hb); (try clear hb2); (try clear hk); (try clear hi)) | ((with_reducible refine gate_dst (N := 6) rfl ?_); refine boxE_ 6 #[.int .i64 0, .int .i64 0] 39 ?_; intro gb213 hg w33 hbox hb; have n0_ := Aside0.mk (Kd.N_below (Kd.N_elderB (hN_ HO197.out) gb213 (Nat.le_of_eq hg.symm)) hb); have n1_ := Aside0.mk (Kd.R_below (hR_ HO200.out) hb); have n2_ := Aside0.mk (Kd.R_below (hR_ HO204.out) hb); have n3_ := Aside0.mk (bB_ BK201.out hb); have n4_ := Aside0.mk (bB_ BK209.out hb); have n5_ := Aside0.mk (below_step hC_ hb); have n6_ := Aside0.mk (hbox); have n7_ := Aside0.mk ((gE_ hg : w.heap.size ≤ gb213)); have n8_ := Aside0.mk ((gE_ hg : w.heap.size ≤ gb213)); have n9_ := Aside0.mk ((bL_ BK201.out hg : gb201 ≠ gb213)); have n10_ := Aside0.mk ((bG_ BK201.out hg : gb213 ≠ gb201)); have n11_ := Aside0.mk ((bL_ BK209.out hg : gb209 ≠ gb213)); have n12_ := Aside0.mk ((bG_ BK209.out hg : gb213 ≠ gb209)); clear HO197 HO200 HO204 BK201 BK209 HB; have HO197 := n0_; have HO200 := n1_; have HO204 := n2_; have BK201 := n3_; have BK209 := n4_; have HB := n5_; have BK213 := n6_; have GW213 := n7_; have GE213 := n8_; have NB201_213 := n9_; have NB213_201 := n10_; have NB209_213 := n11_; have NB213_209 := n12_; clear n0_ n1_ n2_ n3_ n4_ n5_ n6_ n7_ n8_ n9_ n10_ n11_ n12_; clear hb hbox hg; have hnb34 := NB213_201.out; have hnc34 := NB201_213.out; have hnb35 := NB213_209.out; have hnc35 := NB209_213.out; obtain ⟨hcz36_0, hcz36_1, hfz36_0, hfz36_1⟩ := bx2_ BK213.out) | ((with_reducible refine gate_store (t := 39) (p := 6) rfl ?_); refine store_event (t := 39) (p := 6) (v := ?vo_w37) (w1 := ((w33.setCell ⟨gb213, 0, none⟩ (.int .i64 t210)).setCell ⟨gb213, 1, none⟩ (.int .i64 t211))) ?hg ?ho ?hn ?hr ?_; (case ho => rfl); (case hg => rfl); (case hn => rfl); (case hr => first | (go_simp; done) | (go_simp; rfl)); intro w37 hw; have n0_ : Aside0 (Kd.N k33 33 w37 w.heap.size (fun k_ => some k_ ≠ (.slice Ao21 y198.length co21 : Value).ownBlock ∧ some k_ ≠ (v203 : Value).ownBlock ∧ k_ ≠ gb201 ∧ k_ ≠ gb209 ∧ k_ ≠ gb213) (.slice Ao22 t195.length co22) t195) := ⟨(by rw [hw]; exact (by (with_reducible repeat (first | apply Kd.N_alloc | apply Kd.N_drewN | apply Kd.N_drew)); exact Kd.N_mono (nF_ (nF_ (Kd.N_mono HO197.out (fun k_ hk => (⟨hk, hk.2⟩ : _ ∧ k_ ≠ gb213))))) (fun _ hk => ⟨hk.1.1.1.1.1.2, ⟨hk.1.1.1.2, ⟨hk.1.1.1.1.2, ⟨hk.1.1.2, hk.1.2⟩⟩⟩⟩)))⟩; have n1_ : Aside0 (Kd.R k26 26 w37 w.heap.size (fun _ => True) (.slice Ao21 y198.length co21) y198) := ⟨(by rw [hw]; exact (by (with_reducible repeat (first | apply Kd.R_alloc | apply Kd.R_drewN | apply Kd.R_drew)); exact Kd.R_mono (rF_ (rF_ (Kd.R_types HO200.out BK213.out (by decide)))) (fun _ hk => trivial)))⟩; have n2_ : Aside0 (Kd.R (Kd.int .i64) 3 w37 w.heap.size (fun _ => True) v203 t202) := ⟨(by rw [hw]; exact (by (with_reducible repeat (first | apply Kd.R_alloc | apply Kd.R_drewN | apply Kd.R_drew)); exact Kd.R_mono (rF_ (rF_ (Kd.R_types HO204.out BK213.out (by decide)))) (fun _ hk => trivial)))⟩; have n3_ : Aside0 (w37.heap[gb201]? = some (.cells #[.slice Ao22 t195.length co22, .int .i64 2, .slice Ao21 y198.length co21] 29 (0, 0))) := ⟨(by rw [hw]; exact (bF_ (bF_ (hK_ BK201.out) NB201_213.out) NB201_213.out))⟩; have n4_ : Aside0 (w37.heap[gb209]? = some (.cells #[.int .i64 t206, .int .i64 t207] 39 (0, 0))) := ⟨(by rw [hw]; exact (bF_ (bF_ (hK_ BK209.out) NB209_213.out) NB209_213.out))⟩; have n5_ : Aside0 (w37.heap[gb213]? = some (.cells #[.int .i64 t210, .int .i64 t211] 39 (0, 0))) := ⟨(by rw [hw]; exact (bP_ (bP_ (hK_ BK213.out))))⟩; have n6_ : Aside0 (Below w.heap.size w w37) := ⟨(by rw [hw]; exact hC_)⟩; clear hw HO197 HO200 HO204 BK201 BK209 BK213 HB; have HO197 := n0_; have HO200 := n1_; have HO204 := n2_; have BK201 := n3_; have BK209 := n4_; have BK213 := n5_; have HB := n6_; clear n0_ n1_ n2_ n3_ n4_ n5_ n6_; obtain ⟨hcz38_0, hcz38_1, hcz38_2, hfz38_0, hfz38_1, hfz38_2⟩ := bx3_ BK201.out; have p6 : 0 ≤ (0 : Int) := (by omega); have q6 : (0 : Int) < ((y198.length : Int) : Int) := of_decide_eq_true hA_; have qi6 : (0 < y198.length) = True := eq_true (by omega); obtain ⟨go6, co6, eo6, gb6, gl6, cl6, HG6⟩ := Kd.R_form HO200.out (by omega); (first | cases eo6 | (injection eo6 with ea_ en_ ec_; (first | subst ea_ | (injection ea_ with ea_; subst ea_)); subst ec_; clear en_)); have GB6 := Aside0.mk gb6; have GG6 := Aside0.mk HG6; clear gb6 gl6 HG6; obtain ⟨ce6, hcl6, hM6, hcc6, hfr6⟩ := Kd.R_elem HO200.out z26 (0 : Int) p6 q6; obtain rfl := k26_openM hM6; have hx6_0 : w37.cell? ⟨go6, (0 : Int).toNat * 2, none⟩ = some (.int .i64 ((rd_T26 y198 0).f0)) := hcc6 0 _ rfl; have hx6_1 : w37.cell? ⟨go6, (0 : Int).toNat * 2 + 1, none⟩ = some (.int .i64 ((rd_T26 y198 0).f1)) := hcc6 1 _ rfl; have hf6_0 : w37.frozen? ⟨go6, (0 : Int).toNat * 2, none⟩ = false := hfr6 0; have hf6_1 : w37.frozen? ⟨go6, (0 : Int).toNat * 2 + 1, none⟩ = false := hfr6 1; clear hcl6 hcc6 hfr6 hM6; (try rw [show ((0 : Int)).toNat = 0 from rfl] at hx6_0); (try simp only [Nat.reduceMul, Nat.zero_mul, Nat.zero_add, Nat.reduceAdd] at hx6_0); (try rw [show ((0 : Int)).toNat = 0 from rfl] at hf6_0); (try simp only [Nat.reduceMul, Nat.zero_mul, Nat.zero_add, Nat.reduceAdd] at hf6_0); (try rw [show ((0 : Int)).toNat = 0 from rfl] at hx6_1); (try simp only [Nat.reduceMul, Nat.zero_mul, Nat.zero_add, Nat.reduceAdd] at hx6_1); (try rw [show ((0 : Int)).toNat = 0 from rfl] at hf6_1); (try simp only [Nat.reduceMul, Nat.zero_mul, Nat.zero_add, Nat.reduceAdd] at hf6_1); replace p6 := eq_true p6; replace q6 := eq_true q6; have HX39 := Aside0.mk (show Kd.R k26 26 w37 w.heap.size (fun _ => True) (.slice (some ⟨go6, 0, none⟩) y198.length co21) y198 from (hR_ HO200.out)); obtain ⟨ce39, hcl39, hM39, hcc39, hfr39⟩ := Kd.R_elem HX39.out z26 (0 : Int) (by omega) (by have h_ : (0 : Int) < ((y198.length : Int) : Int) := of_decide_eq_true hA_; first | exact h_ | (have e_ := (Kd.R_reads' HO200.out).1; omega) | simpa using h_); obtain rfl := k26_openM hM39; have HP39 := Kd.R_seg HX39.out (0 : Int) (by omega) (by have h_ : (0 : Int) < ((y198.length : Int) : Int) := of_decide_eq_true hA_; first | exact h_ | (have e_ := (Kd.R_reads' HO200.out).1; omega) | simpa using h_) (seg := [.int .i64 0]) (j := 1) hcl39 hcc39 (show 2 ≤ 2 from by decide) (x' := (⟨(rd_T26 y198 0).f0, 0⟩ : S26)) (k26_mkM _ _ _ (⟨(rd_T26 y198 0).f0, 0⟩ : S26) ) (fun _ hk => hk); have hx39_1 := hcc39 1 _ rfl; (try simp only [show (k26).sz = 2 from rfl, Nat.mul_one, Nat.add_zero] at hx39_1); (try rw [show ((0 : Int)).toNat = 0 from rfl] at hx39_1); (try simp only [Nat.reduceMul, Nat.zero_mul, Nat.zero_add, Nat.reduceAdd] at hx39_1); have hf39_1 := hfr39 1; (try simp only [show (k26).sz = 2 from rfl, Nat.mul_one, Nat.add_zero] at hf39_1); (try rw [show ((0 : Int)).toNat = 0 from rfl] at hf39_1); (try simp only [Nat.reduceMul, Nat.zero_mul, Nat.zero_add, Nat.reduceAdd] at hf39_1); clear hcl39 hcc39 hfr39 hM39) | ((with_reducible refine gate_store (t := 3) (p := 34) rfl ?_); refine store_event (t := 3) (p := 34) (v := ?vo_w40) (w1 := (w37.setCell ⟨go6, 1, none⟩ (.int .i64 0))) ?hg ?ho ?hn ?hr ?_; (case ho => rfl); (case hg => rfl); (case hn => rfl); (case hr => first | (go_simp; done) | (go_simp; rfl)); intro w40 hw; have hg : w37.grownBy w40 (some go6) := (by rw [hw]; exact HP39.2); have hp_ : Kd.R k26 26 w40 w.heap.size (fun _ => True) (.slice (some ⟨go6, 0, none⟩) y198.length co21) y214 := (by rw [hw, Ny214.out]; exact HP39.1); clear HP39; have n0_ := Aside0.mk (Kd.N_afterv (v := (.slice (some ⟨go6, 0, none⟩) y198.length co21)) (v1 := (.slice (some ⟨go6, 0, none⟩) y198.length co21)) (ok := (fun k_ => some k_ ≠ (v203 : Value).ownBlock ∧ k_ ≠ gb201 ∧ k_ ≠ gb209 ∧ k_ ≠ gb213)) (by (with_reducible repeat (first | apply Kd.N_alloc | apply Kd.N_drewN | apply Kd.N_drew)); exact Kd.N_mono HO197.out (fun _ hk => ⟨⟨hk.2.1, ⟨hk.2.2.1, ⟨hk.2.2.2.1, hk.2.2.2.2⟩⟩⟩, hk.1⟩)) hg (.inl rfl)); have n1_ := Aside0.mk (hp_); have n2_ := Aside0.mk (blk_grown (hK_ BK201.out) hg (Kd.R_ne HO200.out BK201.out (by decide))); have n3_ := Aside0.mk (Kd.R_over' (v := (.slice (some ⟨go6, 0, none⟩) y198.length co21)) (hR_ HO204.out) (Kd.R_typed HO200.out) (by decide) hg); have n4_ := Aside0.mk (blk_grown (hK_ BK209.out) hg (Kd.R_ne HO200.out BK209.out (by decide))); have n5_ := Aside0.mk (blk_grown (hK_ BK213.out) hg (Kd.R_ne HO200.out BK213.out (by decide))); have n6_ := Aside0.mk ((by rw [hw]; exact below_set (HB.out) GB6.out : Below w.heap.size w w40)); clear HO197 HO200 BK201 HO204 BK209 BK213 HB; have HO197 := n0_; have HO200 := n1_; have BK201 := n2_; have HO204 := n3_; have BK209 := n4_; have BK213 := n5_; have HB := n6_; clear n0_ n1_ n2_ n3_ n4_ n5_ n6_; clear hg hw hp_; obtain ⟨hcz41_0, hcz41_1, hcz41_2, hfz41_0, hfz41_1, hfz41_2⟩ := bx3_ BK201.out) | ((with_reducible refine gate_callee (f := 9) rfl ?_); refine goesL_ (some 37) rfl rfl Tryd.func9 (by kernel_rfl) rfl #[.agg #[.slice Ao22 t195.length co22, .int .i64 2, .slice (some ⟨go6, 0, none⟩) y214.length co21]] rfl (by (try simp only [List.map_toArray, List.map_cons, List.map_nil]); first | done | (rw [show y214.length = y198.length from (Kd.R_reads' HO200.out).1.symm] <;> rfl) | rfl | (simp only [List.length_drop, List.length_take]; rfl)) ?_; (with_reducible refine (next_Marks.calls k _ _ t195 2 _ _ y214 t215 t218 _ ?side1 ?side2 ?side3 ?side4 A7.out (by first | exact hG | exact GOK.below hG hC_)).mono ?_); (case side1 => repeat (first | exact (Kd.N_reads' HO197.out).2.2 | (with_reducible refine Kd.C_alloc ?_ _) | (with_reducible refine Kd.C_drewN ?_ _) | (with_reducible refine Kd.C_drew ?_))); (case side2 => exact (Kd.N_reads' HO197.out).2.1); (case side3 => exact cC_ (Kd.R_reads' HO200.out).2.2); (case side4 => rw [show y214.length = y198.length from (Kd.R_reads' HO200.out).1.symm]; exact (Kd.R_reads' HO200.out).2.1); rintro e w42 ⟨v216, rfl, ho0, hb⟩; refine ⟨_, rfl, ?_⟩; have n0_ := Aside0.mk (Kd.N_elder' (hN_ HO197.out) (Kd.R_base ho0) hb); have n1_ := Aside0.mk (Kd.R_below (hR_ HO200.out) hb); have n2_ := Aside0.mk (Kd.R_elder' (hR_ HO204.out) (Kd.R_base ho0) hb); have n3_ := Aside0.mk (Kd.R_lower (Kd.R_new' ho0 (Kd.R_lt (hR_ HO204.out))) (below_size hC_)); have n4_ := Aside0.mk (bB_ BK201.out hb); have n5_ := Aside0.mk (bB_ BK209.out hb); have n6_ := Aside0.mk (bB_ BK213.out hb); have n7_ := Aside0.mk (below_step hC_ hb); clear HO197 HO200 HO204 BK201 BK209 BK213 HB; have HO197 := n0_; have HO200 := n1_; have HO204 := n2_; have HO217 := n3_; have BK201 := n4_; have BK209 := n5_; have BK213 := n6_; have HB := n7_; clear n0_ n1_ n2_ n3_ n4_ n5_ n6_ n7_; (try clear hb); (try clear hb2); (try clear hk); (try clear hi); (try clear ho0)) | ((with_reducible refine gate_dst (N := 41) rfl ?_); refine Kd.R_lit (Kd.int .i64) _ 3 ?hg (N := 41) ?hd (xs := ([2, 1, 0, 0, 0] : List Int)) (inner := [.int .i64 2, .int .i64 1, .int .i64 0, .int .i64 0, .int .i64 0]) (ok := fun _ => True) (okp := fun _ => True) ?hr ?hp (fun _ hk => hk) trivial (Below.refl _ _) (Nat.le_refl _) (by simp) ?_; (case hd => rfl); (case hg => rfl); (case hr => first | (go_simp; done) | (go_simp; rfl)); (case hp => exact (Reps.one (show Kd.M (Kd.int .i64) _ _ _ 2 [.int .i64 2] from rfl) (Reps.one (show Kd.M (Kd.int .i64) _ _ _ 1 [.int .i64 1] from rfl) (Reps.one (show Kd.M (Kd.int .i64) _ _ _ 0 [.int .i64 0] from rfl) (Reps.one (show Kd.M (Kd.int .i64) _ _ _ 0 [.int .i64 0] from rfl) (Reps.one (show Kd.M (Kd.int .i64) _ _ _ 0 [.int .i64 0] from rfl) (Reps.none _ _))))))); intro v220 w43 ho44 hb hg_ hnew_; clear hg_ hnew_; (first | rw [← Ny219.out] at ho44 | (simp only [Int.reduceToNat] at ho44; rw [← Ny219.out] at ho44)); have n0_ := Aside0.mk (Kd.N_elder' (hN_ HO197.out) (Kd.R_base ho44) hb); have n1_ := Aside0.mk (Kd.R_below (hR_ HO200.out) hb); have n2_ := Aside0.mk (Kd.R_elder' (hR_ HO204.out) (Kd.R_base ho44) hb); have n3_ := Aside0.mk (Kd.R_elder' (hR_ HO217.out) (Kd.R_base ho44) hb); have n4_ := Aside0.mk (Kd.R_lower (Kd.R_new' (Kd.R_new' ho44 (Kd.R_lt (hR_ HO204.out))) (Kd.R_lt (hR_ HO217.out))) (below_size hC_)); have n5_ := Aside0.mk (bB_ BK201.out hb); have n6_ := Aside0.mk (bB_ BK209.out hb); have n7_ := Aside0.mk (bB_ BK213.out hb); have n8_ := Aside0.mk (below_step hC_ hb); clear HO197 HO200 HO204 HO217 BK201 BK209 BK213 HB; have HO197 := n0_; have HO200 := n1_; have HO204 := n2_; have HO217 := n3_; have HO221 := n4_; have BK201 := n5_; have BK209 := n6_; have BK213 := n7_; have HB := n8_; clear n0_ n1_ n2_ n3_ n4_ n5_ n6_ n7_ n8_; clear hb ho44; obtain ⟨Ao45, co45, eo45⟩ := Kd.R_slice HO204.out; subst eo45; obtain ⟨Ao46, co46, eo46⟩ := Kd.R_slice HO221.out; subst eo46) | ((with_reducible refine gate_callee (f := 13) rfl ?_); refine goesL_ (some 42) rfl rfl Tryd.func13 (by kernel_rfl) rfl #[.slice Ao45 t202.length co45, .slice Ao46 y219.length co46] rfl hL_ ?_; (with_reducible refine (sleuthlaw0_SameInts.calls k _ _ t202 _ _ y219 true _ ?side1 ?side2 ?side3 ?side4 A8.out).mono ?_); (case side1 => exact cC_ (Kd.R_reads' HO204.out).2.2); (case side2 => exact (Kd.R_reads' HO204.out).2.1); (case side3 => exact cC_ (Kd.R_reads' HO221.out).2.2); (case side4 => exact (Kd.R_reads' HO221.out).2.1); rintro e w' ⟨rfl, ⟨nd, rfl⟩⟩; refine ⟨_, rfl, ?_⟩) | (go_at_call 11; (with_reducible refine (sleuthlaw0_Num.calls t205 t223 _ A10.out).mono ?_); rintro e w' ⟨rfl, ⟨nd, rfl⟩⟩; obtain ⟨hcz47_0, hcz47_1, hfz47_0, hfz47_1⟩ := bx2_ BK209.out) | (go_at_call 11; (with_reducible refine (sleuthlaw0_Num.calls t208 t224 _ A13.out).mono ?_); rintro e w' ⟨rfl, ⟨nd, rfl⟩⟩) | (go_at_call 11; (with_reducible refine (sleuthlaw0_Num.calls t212 t225 _ A15.out).mono ?_); rintro e w' ⟨rfl, ⟨nd, rfl⟩⟩) | (go_at_call 11; (with_reducible refine (sleuthlaw0_Num.calls t218 t226 _ A17.out).mono ?_); rintro e w' ⟨rfl, ⟨nd, rfl⟩⟩))
  go_ret
  exact ⟨hV_, hC_⟩
-- NOT PRINTED: function 3 (sleuthlaw20_NextForms)

/-! ### sleuthref12_upTo: function 30 -/
def sleuthref12_upTo.f (a0 : Int) (a1 : Int) (a2 : Int) : Option (Bool) := if a0 ≥ a1 then (some (decide (a0 ≤ a2))) else (some false)
set_option maxHeartbeats 8000000 in
set_option maxRecDepth 100000 in
theorem sleuthref12_upTo.calls (a0 : Int) (a1 : Int) (a2 : Int) (r : Bool) (w : World) (h : sleuthref12_upTo.f a0 a1 a2 = some r) :
    Calls Tryd.prog 30 #[.int .i64 a0, .int .i64 a1, .int .i64 a2] w fun e w' => e = .returned (.bool r) ∧ Drawn0 w w' := by
  have H : (if a0 ≥ a1 then (some (decide (a0 ≤ a2))) else (some false)) = some r := h
  clear h
  by_cases c4 : a0 ≥ a1
  case pos =>
    rw [if_pos c4] at H
    have c4b0 : decide (a1 ≤ a0) = true := decide_eq_true c4
    clear c4
    obtain rfl := Option.some.inj H
    go_enter Tryd.func30, Tryd.ntmps30
    go_wp2
    go_ret
    exact ⟨by first | rfl | (simp; done) | (simp [*]; done), by repeat (first | exact Drawn0.refl _ | apply Drawn0.step)⟩
  rw [if_neg c4] at H
  have c4b0 : decide (a1 ≤ a0) = false := decide_eq_false c4
  clear c4
  obtain rfl := Option.some.inj H
  go_enter Tryd.func30, Tryd.ntmps30
  go_wp2
  go_ret
  exact ⟨by first | rfl | (simp; done) | (simp [*]; done), by repeat (first | exact Drawn0.refl _ | apply Drawn0.step)⟩

/-! ### sleuthref1_bad: function 81 -/
def sleuthref1_bad.f  : Option (Int × Int × List ByteArray × Int) := some (0, 0, ([] : List ByteArray), (-1))
set_option maxHeartbeats 8000000 in
set_option maxRecDepth 100000 in
theorem sleuthref1_bad.calls  (r1 : Int) (r2 : Int) (r3 : List ByteArray) (r4 : Int) (w : World) (h : sleuthref1_bad.f  = some (r1, r2, r3, r4)) :
    Calls Tryd.prog 81 #[] w fun e w' => ∃ v2_ : Value, e = .returned (.agg #[.int .i64 r1, .int .i64 r2, v2_, .int .i64 r4]) ∧ Kd.R Kd.string 9 w' w.heap.size (fun _ => True) v2_ r3 ∧ Below w.heap.size w w' := by
  have hu109 := Tryd.underlying109
  have HB := Aside0.mk (Below.refl w.heap.size w)
  have H : (some (0, 0, ([] : List ByteArray), (-1))) = some (r1, r2, r3, r4) := h
  clear h
  simp only [Option.some.injEq, Prod.mk.injEq] at H
  obtain ⟨rfl, rfl, rfl, rfl⟩ := H
  go_enter Tryd.func81, Tryd.ntmps81
  go_wp2_with (first | ((with_reducible refine gate_dst (N := 0) rfl ?_); refine boxE_ 0 #[.int .i64 0, .int .i64 0, .slice none 0 0, .int .i64 0] 109 ?_; intro gb260 hg w1 hbox hb; have n0_ := Aside0.mk (below_step hB_ hb); have n1_ := Aside0.mk (hbox); have n2_ := Aside0.mk ((gE_ hg : w.heap.size ≤ gb260)); have n3_ := Aside0.mk ((gE_ hg : w.heap.size ≤ gb260)); clear HB; have HB := n0_; have BK260 := n1_; have GW260 := n2_; have GE260 := n3_; clear n0_ n1_ n2_ n3_; clear hb hbox hg; obtain ⟨hcz2_0, hcz2_1, hcz2_2, hcz2_3, hfz2_0, hfz2_1, hfz2_2, hfz2_3⟩ := bx4_ BK260.out))
  refine bodyPost_ret (results_cell_row rfl _ _ gb260 109 #[.int .i64 0, .int .i64 0, .slice none 0 0, .int .i64 (-1)] (0, 0) _ rfl (bP_ (bP_ (bP_ (bP_ (hK_ BK260.out))))) Tryd.underlying109 rfl (by kernel_rfl)) rfl ?_
  exact ⟨_, hV_, by first | exact Kd.R_nil _ _ _ _ _ | exact Kd.N_nil _ _ _ _ _ | exact Kd.V_nil _ _ _ _ _ | exact Kd.Q_nil _ _ _ _ _ | exact Kd.S_nil _ _ _ _ _, hC_⟩

end Go.Proofs.YtgokcaccamfgfaaDoor.G
end
section
-- Laid by the session's own driver gp.py over the kit's printer. Not trusted: Lean checks it.
namespace Go.Proofs.YtgokcaccamfgfaaDoor.G
open Go.RowKit Go.Proofs.YtgokcaccamfgfaaDoorW.PrintWords Go.Proofs.YtgokcaccamfgfaaDoorW.PrintLast Go.Proofs.YtgokcaccamfgfaaDoorW.PrintMore
attribute [local go_sem] max2_int min2_int max_two min_two max_three min_three max_four min_four   -- for this text's walks alone
set_option linter.unusedVariables false
set_option linter.unusedSimpArgs false

/-! ### sleuthref1_digits: function 82 -/
def sleuthref1_digits.l0 : Nat → ByteArray → Int → Int → Option (Int × Int)
  | 0, _, _, _ => none
  | k + 1, x0, x4, x5 => if x5 < (x0.size : Int) then (if x5 < 6 then (if 0 ≤ x5 then (if (bt x0 x5) ≥ 48 then (if (bt x0 x5) ≤ 57 then (if x5 = 0 then (sleuthref1_digits.l0 k x0 (wrap64 ((wrap64 (10 * x4)) + (((bt x0 x5) - 48) % 256))) (wrap64 (x5 + 1))) else (if 0 < (x0.size : Int) then (if (bt x0 0) = 48 then (some (x4, x5)) else (sleuthref1_digits.l0 k x0 (wrap64 ((wrap64 (10 * x4)) + (((bt x0 x5) - 48) % 256))) (wrap64 (x5 + 1)))) else (none))) else (some (x4, x5))) else (some (x4, x5))) else (none)) else (some (x4, x5))) else (some (x4, x5))
def sleuthref1_digits.f (k : Nat) (a0 : ByteArray) : Option (Int × Int) := sleuthref1_digits.l0 k a0 0 0
theorem sleuthref1_digits.mono_l : ∀ k, (∀ y0 y1 y2, LeO (sleuthref1_digits.l0 k y0 y1 y2) (sleuthref1_digits.l0 (k + 1) y0 y1 y2))
  | 0 => fun _ _ _ r h => by simp [sleuthref1_digits.l0] at h
  | k + 1 => by
    have ih0 := sleuthref1_digits.mono_l k
    · intro y0 y1 y2
      unfold sleuthref1_digits.l0
      repeat' first
      | (with_reducible exact ih0 _ _ _)
      | (with_reducible exact LeO.refl _)
      | (with_reducible exact LeO.none _)
      | (with_reducible refine LeO.ite ?_ ?_)
      | (with_reducible refine LeO.bind ?_ (fun _ => ?_))
      | exact ih0 _ _ _
      | exact LeO.none _
      | refine LeO.ite ?_ ?_
      | refine LeO.bind ?_ (fun _ => ?_)
theorem sleuthref1_digits.mono : ∀ a0 k, LeO (sleuthref1_digits.f k a0) (sleuthref1_digits.f (k + 1) a0) := by
  intro a0 k
  have ih0 := sleuthref1_digits.mono_l k
  unfold sleuthref1_digits.f
  repeat' first
      | (with_reducible exact ih0 _ _ _)
      | (with_reducible exact LeO.refl _)
      | (with_reducible exact LeO.none _)
      | (with_reducible refine LeO.ite ?_ ?_)
      | (with_reducible refine LeO.bind ?_ (fun _ => ?_))
      | exact ih0 _ _ _
      | exact LeO.none _
      | refine LeO.ite ?_ ?_
      | refine LeO.bind ?_ (fun _ => ?_)
set_option maxHeartbeats 8000000 in
set_option maxRecDepth 100000 in
theorem sleuthref1_digits.calls (k : Nat) (a0 : ByteArray) (r1 : Int) (r2 : Int) (w : World) (h : sleuthref1_digits.f k a0 = some (r1, r2)) :
    Calls Tryd.prog 82 #[.string a0] w fun e w' => e = .returned (.tuple #[.int .i64 r1, .int .i64 r2]) ∧ Drawn0 w w' := by
  have H : (sleuthref1_digits.l0 k a0 0 0) = some (r1, r2) := h
  clear h
  have H' := Aside0.mk H
  clear H
  go_enter Tryd.func82, Tryd.ntmps82
  go_wp2
  go_loopg [4, 5] k (fun kq v4 v5 w' => ∃ (x4_1 : Int) (x5_1 : Int), v4 = .int .i64 x4_1 ∧ v5 = .int .i64 x5_1 ∧ Aside0 (sleuthref1_digits.l0 kq a0 x4_1 x5_1 = some (r1, r2)) ∧ Aside0 (kq ≤ k) ∧ Drawn0 w w')
  case atStart => exact ⟨(0), (0), hW_, hW_, H', ⟨Nat.le_refl _⟩, by repeat (first | exact Drawn0.refl _ | apply Drawn0.step)⟩
  case round =>
    clear H'
    obtain ⟨x4_1, x5_1, rfl, rfl, HA, HK1, ⟨m1, rfl⟩⟩ := hrel
    cases gk with
    | zero => exact absurd HA.out (by simp [sleuthref1_digits.l0])
    | succ k1 =>
      have H := HA.out
      clear HA
      simp only [sleuthref1_digits.l0] at H
      by_cases c2 : x5_1 < (a0.size : Int)
      case neg =>
        rw [if_neg c2] at H
        have c2b0 : decide (x5_1 < (a0.size : Int)) = false := decide_eq_false c2
        clear c2
        simp only [Option.some.injEq, Prod.mk.injEq] at H
        obtain ⟨rfl, rfl⟩ := H
        go_wp2
        go_ret2
        exact ⟨by first | rfl | (simp; done) | (simp [*]; done), by repeat (first | exact Drawn0.refl _ | apply Drawn0.step)⟩

      rw [if_pos c2] at H
      have c2b0 : decide (x5_1 < (a0.size : Int)) = true := decide_eq_true c2
      clear c2
      by_cases c3 : x5_1 < 6
      case neg =>
        rw [if_neg c3] at H
        have c3b0 : decide (x5_1 < 6) = false := decide_eq_false c3
        clear c3
        simp only [Option.some.injEq, Prod.mk.injEq] at H
        obtain ⟨rfl, rfl⟩ := H
        go_wp2
        go_ret2
        exact ⟨by first | rfl | (simp; done) | (simp [*]; done), by repeat (first | exact Drawn0.refl _ | apply Drawn0.step)⟩
      rw [if_pos c3] at H
      have c3b0 : decide (x5_1 < 6) = true := decide_eq_true c3
      clear c3
      replace H := ifI_ H; obtain ⟨c4, H⟩ := H
      have c4b0 : decide (0 ≤ x5_1) = true := decide_eq_true c4
      clear c4
      by_cases c6 : (bt a0 x5_1) ≥ 48
      case neg =>
        rw [if_neg c6] at H
        have c6b0 : decide (48 ≤ (bt a0 x5_1)) = false := decide_eq_false c6
        clear c6
        simp only [Option.some.injEq, Prod.mk.injEq] at H
        obtain ⟨rfl, rfl⟩ := H
        have p5 : 0 ≤ (x5_1 : Int) := of_decide_eq_true hA_
        have q5 : x5_1 < (a0.size : Int) := of_decide_eq_true hA_
        have hx5 := bt_at a0 x5_1
        replace p5 := eq_true p5
        replace q5 := eq_true q5
        go_wp2
        go_ret2
        exact ⟨by first | rfl | (simp; done) | (simp [*]; done), by repeat (first | exact Drawn0.refl _ | apply Drawn0.step)⟩
      rw [if_pos c6] at H
      have c6b0 : decide (48 ≤ (bt a0 x5_1)) = true := decide_eq_true c6
      clear c6
      by_cases c8 : (bt a0 x5_1) ≤ 57
      case neg =>
        rw [if_neg c8] at H
        have c8b0 : decide ((bt a0 x5_1) ≤ 57) = false := decide_eq_false c8
        clear c8
        simp only [Option.some.injEq, Prod.mk.injEq] at H
        obtain ⟨rfl, rfl⟩ := H
        have p5 : 0 ≤ (x5_1 : Int) := of_decide_eq_true hA_
        have q5 : x5_1 < (a0.size : Int) := of_decide_eq_true hA_
        have hx5 := bt_at a0 x5_1
        replace p5 := eq_true p5
        replace q5 := eq_true q5
        have p7 : 0 ≤ (x5_1 : Int) := of_decide_eq_true hA_
        have q7 : x5_1 < (a0.size : Int) := of_decide_eq_true hA_
        have hx7 := bt_at a0 x5_1
        replace p7 := eq_true p7
        replace q7 := eq_true q7
        go_wp2
        go_ret2
        exact ⟨by first | rfl | (simp; done) | (simp [*]; done), by repeat (first | exact Drawn0.refl _ | apply Drawn0.step)⟩
      rw [if_pos c8] at H
      have c8b0 : decide ((bt a0 x5_1) ≤ 57) = true := decide_eq_true c8
      clear c8
      by_cases c9 : x5_1 = 0
      case pos =>
        rw [if_pos c9] at H
        have c9b0 : (x5_1 == 0) = true := beq_iff_eq.mpr c9
        have c9b1 : (x5_1 != 0) = false := bne_eq_false_iff_eq.mpr c9
        clear c9
        have H' := Aside0.mk H
        clear H
        have p5 : 0 ≤ (x5_1 : Int) := of_decide_eq_true hA_
        have q5 : x5_1 < (a0.size : Int) := of_decide_eq_true hA_
        have hx5 := bt_at a0 x5_1
        replace p5 := eq_true p5
        replace q5 := eq_true q5
        have p7 : 0 ≤ (x5_1 : Int) := of_decide_eq_true hA_
        have q7 : x5_1 < (a0.size : Int) := of_decide_eq_true hA_
        have hx7 := bt_at a0 x5_1
        replace p7 := eq_true p7
        replace q7 := eq_true q7
        have p10 : 0 ≤ (x5_1 : Int) := of_decide_eq_true hA_
        have q10 : x5_1 < (a0.size : Int) := of_decide_eq_true hA_
        have hx10 := bt_at a0 x5_1
        replace p10 := eq_true p10
        replace q10 := eq_true q10
        go_wp2
        go_roundg k1
        case measure => have := HK1.out; omega
        case rel => exact ⟨(wrap64 ((wrap64 (10 * x4_1)) + (((bt a0 x5_1) - 48) % 256))), (wrap64 (x5_1 + 1)), hW_, hW_, H', ⟨by have := HK1.out; omega⟩, by repeat (first | exact Drawn0.refl _ | apply Drawn0.step)⟩
      rw [if_neg c9] at H
      have c9b0 : (x5_1 == 0) = false := beq_eq_false_iff_ne.mpr c9
      have c9b1 : (x5_1 != 0) = true := bne_iff_ne.mpr c9
      replace H := ifI_ H; obtain ⟨c11, H⟩ := H
      have c11b0 : decide (0 < (a0.size : Int)) = true := decide_eq_true c11
      have c11b1 : decide (0 < a0.size) = true := decide_eq_true (by omega)
      clear c11
      by_cases c13 : (bt a0 0) = 48
      case pos =>
        rw [if_pos c13] at H
        have c13b0 : ((bt a0 0) == 48) = true := beq_iff_eq.mpr c13
        have c13b1 : ((bt a0 0) != 48) = false := bne_eq_false_iff_eq.mpr c13
        clear c13
        simp only [Option.some.injEq, Prod.mk.injEq] at H
        obtain ⟨rfl, rfl⟩ := H
        have p5 : 0 ≤ (x5_1 : Int) := of_decide_eq_true hA_
        have q5 : x5_1 < (a0.size : Int) := of_decide_eq_true hA_
        have hx5 := bt_at a0 x5_1
        replace p5 := eq_true p5
        replace q5 := eq_true q5
        have p7 : 0 ≤ (x5_1 : Int) := of_decide_eq_true hA_
        have q7 : x5_1 < (a0.size : Int) := of_decide_eq_true hA_
        have hx7 := bt_at a0 x5_1
        replace p7 := eq_true p7
        replace q7 := eq_true q7
        have p12 : 0 ≤ (0 : Int) := (by omega)
        have q12 : 0 < a0.size := (by have : (0 : Int) < (a0.size : Int) := of_decide_eq_true hA_; omega)
        have hx12 : ∀ h : 0 < a0.size, ((a0[0]'h).toNat : Int) = bt a0 0 := bt_at a0 0
        clear p12
        have qi12 : (0 < (a0.size : Int)) = True := eq_true (of_decide_eq_true hA_)
        replace q12 := eq_true q12
        go_wp2
        go_ret2
        exact ⟨by first | rfl | (simp; done) | (simp [*]; done), by repeat (first | exact Drawn0.refl _ | apply Drawn0.step)⟩
      rw [if_neg c13] at H
      have c13b0 : ((bt a0 0) == 48) = false := beq_eq_false_iff_ne.mpr c13
      have c13b1 : ((bt a0 0) != 48) = true := bne_iff_ne.mpr c13
      have H' := Aside0.mk H
      clear H
      have p5 : 0 ≤ (x5_1 : Int) := of_decide_eq_true hA_
      have q5 : x5_1 < (a0.size : Int) := of_decide_eq_true hA_
      have hx5 := bt_at a0 x5_1
      replace p5 := eq_true p5
      replace q5 := eq_true q5
      have p7 : 0 ≤ (x5_1 : Int) := of_decide_eq_true hA_
      have q7 : x5_1 < (a0.size : Int) := of_decide_eq_true hA_
      have hx7 := bt_at a0 x5_1
      replace p7 := eq_true p7
      replace q7 := eq_true q7
      have p12 : 0 ≤ (0 : Int) := (by omega)
      have q12 : 0 < a0.size := (by have : (0 : Int) < (a0.size : Int) := of_decide_eq_true hA_; omega)
      have hx12 : ∀ h : 0 < a0.size, ((a0[0]'h).toNat : Int) = bt a0 0 := bt_at a0 0
      clear p12
      have qi12 : (0 < (a0.size : Int)) = True := eq_true (of_decide_eq_true hA_)
      replace q12 := eq_true q12
      have p14 : 0 ≤ (x5_1 : Int) := of_decide_eq_true hA_
      have q14 : x5_1 < (a0.size : Int) := of_decide_eq_true hA_
      have hx14 := bt_at a0 x5_1
      replace p14 := eq_true p14
      replace q14 := eq_true q14
      go_wp2
      go_roundg k1
      case measure => have := HK1.out; omega
      case rel => exact ⟨(wrap64 ((wrap64 (10 * x4_1)) + (((bt a0 x5_1) - 48) % 256))), (wrap64 (x5_1 + 1)), hW_, hW_, H', ⟨by have := HK1.out; omega⟩, by repeat (first | exact Drawn0.refl _ | apply Drawn0.step)⟩
-- (function 83, sleuthref1_parts: with its fellows)

/-! ### sleuthref1_upTo: function 95 -/
def sleuthref1_upTo.f (a0 : Int) (a1 : Int) (a2 : Int) : Option (Bool) := if a0 ≥ a1 then (some (decide (a0 ≤ a2))) else (some false)
set_option maxHeartbeats 8000000 in
set_option maxRecDepth 100000 in
theorem sleuthref1_upTo.calls (a0 : Int) (a1 : Int) (a2 : Int) (r : Bool) (w : World) (h : sleuthref1_upTo.f a0 a1 a2 = some r) :
    Calls Tryd.prog 95 #[.int .i64 a0, .int .i64 a1, .int .i64 a2] w fun e w' => e = .returned (.bool r) ∧ Drawn0 w w' := by
  have H : (if a0 ≥ a1 then (some (decide (a0 ≤ a2))) else (some false)) = some r := h
  clear h
  by_cases c4 : a0 ≥ a1
  case pos =>
    rw [if_pos c4] at H
    have c4b0 : decide (a1 ≤ a0) = true := decide_eq_true c4
    clear c4
    obtain rfl := Option.some.inj H
    go_enter Tryd.func95, Tryd.ntmps95
    go_wp2
    go_ret
    exact ⟨by first | rfl | (simp; done) | (simp [*]; done), by repeat (first | exact Drawn0.refl _ | apply Drawn0.step)⟩
  rw [if_neg c4] at H
  have c4b0 : decide (a1 ≤ a0) = false := decide_eq_false c4
  clear c4
  obtain rfl := Option.some.inj H
  go_enter Tryd.func95, Tryd.ntmps95
  go_wp2
  go_ret
  exact ⟨by first | rfl | (simp; done) | (simp [*]; done), by repeat (first | exact Drawn0.refl _ | apply Drawn0.step)⟩

/-! ### sleuthref1_NumMay: function 84 -/
def sleuthref1_NumMay.f (a0 : Int) : Option (Bool) := (sleuthref1_upTo.f a0 (-32768) 32767).bind fun t291 => (some t291)
set_option maxHeartbeats 8000000 in
set_option maxRecDepth 100000 in
theorem sleuthref1_NumMay.calls (a0 : Int) (r : Bool) (w : World) (h : sleuthref1_NumMay.f a0 = some r) :
    Calls Tryd.prog 84 #[.int .i64 a0] w fun e w' => e = .returned (.bool r) ∧ Drawn0 w w' := by
  have H : ((sleuthref1_upTo.f a0 (-32768) 32767).bind fun t291 => (some t291)) = some r := h
  clear h
  replace H := Option.bind_eq_some_iff.mp H
  obtain ⟨t291, A20, H⟩ := H
  replace H : (some t291) = some r := H
  have A2 := Aside0.mk A20
  clear A20
  obtain rfl := Option.some.inj H
  go_enter Tryd.func84, Tryd.ntmps84
  go_wp2_with (first | ((with_reducible refine gate_callee (f := 95) rfl ?_); refine goesL_ (some 4) rfl rfl Tryd.func95 (by kernel_rfl) rfl #[.int .i64 a0, .int .i64 (-32768), .int .i64 32767] rfl hL_ ?_; (with_reducible refine (sleuthref1_upTo.calls a0 (-32768) 32767 t291 _ A2.out).mono ?_); rintro e w' ⟨rfl, ⟨nd, rfl⟩⟩; refine ⟨_, rfl, ?_⟩))
  go_ret
  exact ⟨by first | rfl | (simp; done) | (simp [*]; done), by repeat (first | exact Drawn0.refl _ | apply Drawn0.step)⟩

end Go.Proofs.YtgokcaccamfgfaaDoor.G
end
