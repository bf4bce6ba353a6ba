-- Laid by the session's own driver gp.py over the kit's printer. Not trusted: Lean checks it.
import Derived.Test.YtpbobdgenjhjoaaDoorG0
import Derived.Test.YtpbobdgenjhjoaaDoorU8
import Derived.Test.YtpbobdgenjhjoaaDoorG20
import Derived.Test.YtpbobdgenjhjoaaDoorG21
import Derived.Test.YtpbobdgenjhjoaaDoorG22
namespace Go.Proofs.YtpbobdgenjhjoaaDoor.G
open Go.RowKit Go.Proofs.YtpbobdgenjhjoaaDoorW.PrintWords Go.Proofs.YtpbobdgenjhjoaaDoorW.PrintLast Go.Proofs.YtpbobdgenjhjoaaDoorW.PrintMore
attribute [local go_sem] max2_int min2_int max_two min_two max_three min_three max_four min_four   -- for this text's walks alone
set_option linter.unusedVariables false
set_option linter.unusedSimpArgs false

/-! ### half_Ask: function 35, given -/
def openB (d : List Bool) (ms : List Int) (i : Int) : Bool := rdOf false d i && (rd ms i == 0)
def oneB (d : List Bool) (ms : List Int) (i : Int) : Int := if openB d ms i = true then 1 else 0
def szH (ns : List S41) (d : List Bool) (ms : List Int) : List Int := sizesP ns (oneB d ms)
def offW (x m : Int) : Int := mx (wrap64 (wrap64 (2 * x) - m)) (wrap64 (m - wrap64 (2 * x)))
theorem off_calls (x m : Int) (W : World) : Calls Tryd.prog 52 #[.int .i64 x, .int .i64 m] W fun e W' => e = .returned (.int .i64 (offW x m)) ∧ W' = W := by
  unfold offW mx
  by_cases c : wrap64 (wrap64 (2 * x) - m) < wrap64 (m - wrap64 (2 * x))
  · rw [if_pos c]
    go_enter Tryd.func52, Tryd.ntmps52
    go_wp2
    go_ret
    exact ⟨rfl, rfl⟩
  · rw [if_neg c]
    go_enter Tryd.func52, Tryd.ntmps52
    go_wp2
    go_ret
    exact ⟨rfl, rfl⟩
def bestH (sz : List Int) (d : List Bool) (ms : List Int) (m : Int) : Nat → Int
  | 0 => -1
  | n + 1 => if openB d ms (n : Int) = true ∧ (bestH sz d ms m n < 0 ∨ offW (rd sz (n : Int)) m < offW (rd sz (bestH sz d ms m n)) m) then (n : Int) else bestH sz d ms m n
theorem bestH_range (sz : List Int) (d : List Bool) (ms : List Int) (m : Int) : ∀ n : Nat, -1 ≤ bestH sz d ms m n ∧ bestH sz d ms m n < (n : Int)
  | 0 => ⟨Int.le_refl _, by show (-1 : Int) < 0; omega⟩
  | n + 1 => by
    have := bestH_range sz d ms m n
    rw [bestH]
    split <;> omega
def parB (ns : List S41) : Bool := (List.range ns.length).all fun i => decide ((0 ≤ (rd_T41 ns (i : Int)).f1 ∧ (rd_T41 ns (i : Int)).f1 < (i : Int)) ∨ ((i : Int) = 0 ∧ (rd_T41 ns (i : Int)).f1 = -1))
theorem parB_at {ns : List S41} (h : parB ns = true) (i : Int) (h0 : 0 ≤ i) (h1 : i < (ns.length : Int)) : ((0 ≤ (rd_T41 ns i).f1 ∧ (rd_T41 ns i).f1 < i) ∨ (i = 0 ∧ (rd_T41 ns i).f1 = -1)) := by
  have := of_decide_eq_true (List.all_eq_true.1 h i.toNat (List.mem_range.2 (by omega)))
  rw [show ((i.toNat : Nat) : Int) = i by omega] at this
  exact this
def half_Ask.f (k : Nat) (l0 : List S41) (l1 : List Int) : Option (Int × Int) :=
  if 0 < l0.length ∧ l0.length ≤ 512 ∧ l1.length = l0.length ∧ parB l0 = true then
    (if rd l1 0 = 2 then (half_last.f k l1).bind fun w => (half_doubts.f k l0 l1 w).bind fun d =>
      if 0 ≤ w ∧ w < (l0.length : Int) ∧ d.length = l0.length then
        (if bestH (szH l0 d l1) d l1 (rd (szH l0 d l1) w) l0.length < 0 then top_Bug.f l0 l1 w else some (0, bestH (szH l0 d l1) d l1 (rd (szH l0 d l1) w) l0.length)) else none
    else top_Ask.f k l0 l1) else none
theorem half_Ask.mono : ∀ a0 a1 k, LeO (half_Ask.f k a0 a1) (half_Ask.f (k + 1) a0 a1) := by
  intro a0 a1 k
  unfold half_Ask.f
  refine LeO.ite (LeO.ite (LeO.bind (half_last.mono _ _) (fun _ => LeO.bind (half_doubts.mono _ _ _ _) (fun _ => LeO.refl _))) (top_Ask.mono _ _ _)) (LeO.none _)
theorem open_calls (W : World) (Bd Bm : Nat) (d : List Bool) (ms : List Int) (Ad : Option Addr) (cd : Nat) (A1 : Option Addr) (c1 : Nat) (hd : W.cell? ⟨Bd, 0, none⟩ = some (.slice Ad d.length cd)) (hm : W.cell? ⟨Bm, 0, none⟩ = some (.slice A1 ms.length c1))
    (hD : Kd.C Kd.bool W Ad d.length d) (hM : Kd.C (Kd.int .i64) W A1 ms.length ms) (i : Int) (h0 : 0 ≤ i) (h1 : i < (d.length : Int)) (h2 : i < (ms.length : Int)) :
    Calls Tryd.prog 49 #[.int .i64 i, .pointer (some ⟨Bd, 0, none⟩), .pointer (some ⟨Bm, 0, none⟩)] W fun e W' => e = .returned (.bool (openB d ms i)) ∧ W' = W := by
  obtain ⟨ad, e0, g0⟩ := Kd.at_bool hD i h0 h1
  cases e0
  obtain ⟨am, e1, g1⟩ := Kd.at_int hM i h0 h2
  cases e1
  unfold openB
  clear hD hM
  replace h0 := eq_true h0
  replace h1 := eq_true h1
  replace h2 := eq_true h2
  cases hb : rdOf false d i with
  | true =>
    rw [hb] at g0
    rw [Bool.true_and]
    go_enter Tryd.func49, Tryd.ntmps49
    go_wp2
    go_ret
    exact ⟨rfl, rfl⟩
  | false =>
    rw [hb] at g0
    rw [Bool.false_and]
    go_enter Tryd.func49, Tryd.ntmps49
    go_wp2
    go_ret
    exact ⟨rfl, rfl⟩
theorem one_calls (W : World) (Bf Bd Bm : Nat) (d : List Bool) (ms : List Int) (Ad : Option Addr) (cd : Nat) (A1 : Option Addr) (c1 : Nat) (hf : W.cell? ⟨Bf, 0, none⟩ = some (.func (.func 49) #[] #[.pointer (some ⟨Bd, 0, none⟩), .pointer (some ⟨Bm, 0, none⟩)])) (hd : W.cell? ⟨Bd, 0, none⟩ = some (.slice Ad d.length cd)) (hm : W.cell? ⟨Bm, 0, none⟩ = some (.slice A1 ms.length c1))
    (hD : Kd.C Kd.bool W Ad d.length d) (hM : Kd.C (Kd.int .i64) W A1 ms.length ms) (i : Int) (h0 : 0 ≤ i) (h1 : i < (d.length : Int)) (h2 : i < (ms.length : Int)) :
    Calls Tryd.prog 51 #[.int .i64 i, .pointer (some ⟨Bf, 0, none⟩)] W fun e W' => e = .returned (.int .i64 (oneB d ms i)) ∧ ∃ m, W' = W.drewN m := by
  have h : Calls Tryd.prog 51 #[.int .i64 i, .pointer (some ⟨Bf, 0, none⟩)] W fun e W' => e = .returned (.int .i64 (oneB d ms i)) ∧ W' = W := by
    have HO := Aside0.mk (open_calls W Bd Bm d ms Ad cd A1 c1 hd hm hD hM i h0 h1 h2)
    clear hd hm hD hM
    unfold oneB
    cases ho : openB d ms i with
    | true =>
      rw [ho] at HO
      rw [if_pos rfl]
      go_enter Tryd.func51, Tryd.ntmps51
      go_wp2_with (first
        | (go_at_call 49; refine HO.out.mono ?_; rintro e w5 ⟨rfl, rfl⟩))
      go_ret
      exact ⟨rfl, rfl⟩
    | false =>
      rw [ho] at HO
      rw [if_neg Bool.false_ne_true]
      go_enter Tryd.func51, Tryd.ntmps51
      go_wp2_with (first
        | (go_at_call 49; refine HO.out.mono ?_; rintro e w5 ⟨rfl, rfl⟩))
      go_ret
      exact ⟨rfl, rfl⟩
  exact h.mono fun e W' ⟨h1, h2⟩ => ⟨h1, 0, h2⟩
theorem two_boxes (w6 : World) (z1 z2 s f : Value) (t1 t2 : TypeId) : ∀ W7, W7 = ((((w6.alloc (.cells #[z1] t1)).setCell ⟨w6.heap.size, 0, none⟩ s).alloc (.cells #[z2] t2)).setCell ⟨w6.heap.size + 1, 0, none⟩ f) →
    Boxed W7 w6.heap.size t1 s ∧ Boxed W7 (w6.heap.size + 1) t2 f ∧ Below w6.heap.size w6 W7 ∧ W7.heap.size = w6.heap.size + 2 := by
  rintro _ rfl
  have b1 := (Boxed.new w6 t1 z1).set s
  have sz : ∀ (W : World) (p : Addr) (v : Value), (W.setCell p v).heap.size = W.heap.size := fun W p v => by show (W.heap.modify _ _).size = _; rw [Array.size_modify]
  have e1 : ((w6.alloc (.cells #[z1] t1)).setCell ⟨w6.heap.size, 0, none⟩ s).heap.size = w6.heap.size + 1 := by rw [sz]; simp
  have b2 := Boxed.new ((w6.alloc (.cells #[z1] t1)).setCell ⟨w6.heap.size, 0, none⟩ s) t2 z2
  rw [e1] at b2
  have hB : Below w6.heap.size w6 ((w6.alloc (.cells #[z1] t1)).setCell ⟨w6.heap.size, 0, none⟩ s) := ((Below.refl _ w6).alloc (Nat.le_refl _) _).setCell (p := ⟨w6.heap.size, 0, none⟩) (Nat.le_refl _) _
  refine ⟨(b1.alloc _).other (by omega) _, b2.set _, (hB.alloc (by omega) _).setCell (p := ⟨w6.heap.size + 1, 0, none⟩) (Nat.le_succ _) _, ?_⟩
  rw [sz, World.size_alloc, e1]
def Half8 (w : World) (am : Addr) (c1 : Nat) (l1 : List Int) (Ad : Option Addr) (cd : Nat) (d : List Bool) (Bd Bf : Nat) (w8 : World) : Prop :=
  (Below w.heap.size w w8 ∧ Boxed w8 w.heap.size 23 (.slice (some am) l1.length c1) ∧ Boxed2 w8 (w.heap.size + 1) 27 (.int .i64 0) (.int .i64 0)) ∧
  (Boxed w8 Bd 54 (.slice Ad d.length cd) ∧ Boxed w8 Bf 45 (.func (.func 49) #[] #[.pointer (some ⟨Bd, 0, none⟩), .pointer (some ⟨w.heap.size, 0, none⟩)])) ∧ Kd.C Kd.bool w8 Ad d.length d ∧ Kd.C (Kd.int .i64) w8 (some am) l1.length l1
theorem half_sizes (n : Nat) (hn : 2 ≤ n) (w W2 w6 W6a W7 : World) (nd : Nat) (A0 : Option Addr) (c0 : Nat) (l0 : List (S41)) (am : Addr) (c1 : Nat) (l1 : List Int) (Ad : Option Addr) (cd : Nat) (d : List Bool)
    (hr0 : Kd.C k41 w A0 l0.length l0) (hr1 : Kd.C (Kd.int .i64) w (some am) l1.length l1) (h512 : l0.length ≤ 512) (hp : parB l0 = true) (hl : l1.length = l0.length) (hdl : d.length = l0.length)
    (h2 : Below w.heap.size w W2 ∧ Boxed W2 w.heap.size 23 (.slice (some am) l1.length c1) ∧ Boxed2 W2 (w.heap.size + 1) 27 (.int .i64 0) (.int .i64 0))
    (hR6 : Kd.R Kd.bool 4 w6 (W2.drewN nd).heap.size (fun _ => True) (.slice Ad d.length cd) d) (hb6 : Below (W2.drewN nd).heap.size (W2.drewN nd) w6)
    (h6a : (w6.alloc (.cells #[.slice none 0 0] 54)).setCell ⟨w6.heap.size, 0, none⟩ (.slice Ad d.length cd) = W6a)
    (h7 : W6a.alloc (.cells #[.func (.func 49) #[] #[.pointer (some ⟨w6.heap.size, 0, none⟩), .pointer (some ⟨w.heap.size, 0, none⟩)]] 45) = W7) :
    CallsIn Fence.wide n Tryd.prog 50 #[.slice A0 l0.length c0, .func (.func 51) #[] #[.pointer (some ⟨W6a.heap.size, 0, none⟩)]] W7 fun e w8 =>
      ∃ Az cz, e = .returned (.slice Az l0.length cz) ∧ Kd.C (Kd.int .i64) w8 Az l0.length (szH l0 d l1) ∧ Half8 w am c1 l1 Ad cd d w6.heap.size W6a.heap.size w8 := by
  have sz : ∀ (W : World) (p : Addr) (v : Value), (W.setCell p v).heap.size = W.heap.size := fun W p v => by show (W.heap.modify _ _).size = _; rw [Array.size_modify]
  have e6 : W6a.heap.size = w6.heap.size + 1 := by rw [← h6a, sz]; simp
  have e7 : W7.heap.size = w6.heap.size + 2 := by rw [← h7, World.size_alloc, e6]
  have s2 := h2.2.2.lt
  have s6 : W2.heap.size ≤ w6.heap.size := hb6.size
  have B6a : Below w6.heap.size w6 W6a := by rw [← h6a]; exact ((Below.refl _ w6).alloc (Nat.le_refl _) _).setCell (p := ⟨w6.heap.size, 0, none⟩) (Nat.le_refl _) _
  have B7 : Below w6.heap.size w6 W7 := by rw [← h7]; exact B6a.alloc (by omega) _
  have bd6 : Boxed W6a w6.heap.size 54 (.slice Ad d.length cd) := by rw [← h6a]; exact (Boxed.new w6 _ _).set _
  have bd : Boxed W7 w6.heap.size 54 (.slice Ad d.length cd) := by rw [← h7]; exact bd6.alloc _
  have bf : Boxed W7 W6a.heap.size 45 (.func (.func 49) #[] #[.pointer (some ⟨w6.heap.size, 0, none⟩), .pointer (some ⟨w.heap.size, 0, none⟩)]) := by rw [← h7]; exact Boxed.new W6a _ _
  have hB6 : Below w.heap.size w w6 := (below_dn h2.1 nd).trans (hb6.mono h2.1.size)
  have hB7 : Below w.heap.size w W7 := hB6.trans (B7.mono hB6.size)
  have m6 : Boxed w6 w.heap.size 23 (.slice (some am) l1.length c1) := (hb6.block _ (by show w.heap.size < W2.heap.size; omega)).trans h2.2.1
  have r6 : Boxed2 w6 (w.heap.size + 1) 27 (.int .i64 0) (.int .i64 0) := (hb6.block _ (by show w.heap.size + 1 < W2.heap.size; omega)).trans h2.2.2
  have m7 : Boxed W7 w.heap.size 23 (.slice (some am) l1.length c1) := (B7.block _ (by omega)).trans m6
  have r7 : Boxed2 W7 (w.heap.size + 1) 27 (.int .i64 0) (.int .i64 0) := (B7.block _ (by omega)).trans r6
  have d7 : Kd.C Kd.bool W7 Ad d.length d := Kd.C_below (Kd.R_reads' hR6).2.2 B7
  have c7 : Kd.C (Kd.int .i64) W7 (some am) l1.length l1 := Kd.C_below hr1 hB7
  refine (tree_Sizes.in_ n hn 51 #[.pointer (some ⟨W6a.heap.size, 0, none⟩)] (enters_of Tryd.func51 (by kernel_rfl) rfl) (oneB d l1) A0 c0 l0 h512 (parB_at hp) W7 (Kd.C_below hr0 hB7)
    (fun i W h0 h1 hb => one_calls W W6a.heap.size w6.heap.size w.heap.size d l1 Ad cd (some am) c1 (Boxed.cell (show Boxed W W6a.heap.size _ _ from (hb.block _ (by omega)).trans bf)) (Boxed.cell (show Boxed W w6.heap.size _ _ from (hb.block _ (by omega)).trans bd)) (Boxed.cell (show Boxed W w.heap.size _ _ from (hb.block _ (by omega)).trans m7)) (Kd.C_below d7 hb) (Kd.C_below c7 hb) i h0 (by omega) (by omega))).mono ?_
  rintro e w8 ⟨v, rfl, hr, hb⟩
  obtain ⟨Az, cz, rfl, hlz, hC⟩ := Kd.R_reads hr
  have hlen : (szH l0 d l1).length = l0.length := by show (sizesP l0 (oneB d l1)).length = _; unfold sizesP; rw [sizesL_len, List.length_replicate]
  have hC' : Kd.C (Kd.int .i64) w8 Az (szH l0 d l1).length (szH l0 d l1) := hC
  rw [hlen] at hC'
  have e9 : (sizesP l0 (oneB d l1)).length = l0.length := hlen
  refine ⟨Az, cz, by rw [e9], hC', ⟨hB7.trans (hb.mono hB7.size), (hb.block _ (by omega)).trans m7, (hb.block _ (by omega)).trans r7⟩, ⟨(hb.block _ (by omega)).trans bd, (hb.block _ (by omega)).trans bf⟩, Kd.C_below d7 hb, Kd.C_below c7 hb⟩
theorem run_store_func (P : Program) (w : World) (a : Addr) (m : Mode) (f : Fn) (x y : Array Value) : (store a (.func f x y) m).run P w = stored P w a (.func f x y) m := run_store P w a _ m rfl
section
attribute [local go_sem] Oper.semAt_some run_store_func
set_option maxHeartbeats 8000000 in
set_option maxRecDepth 100000 in
theorem half_Ask.inW (n : Nat) (hn : 4 ≤ n) (k : Nat) (A0 : Option Addr) (c0 : Nat) (l0 : List (S41)) (A1 : Option Addr) (c1 : Nat) (l1 : List Int) (wg : Int) (d : List Bool) (r1 r2 : Int) (w : World) (hr0 : Kd.C k41 w A0 l0.length l0) (hc0 : l0.length ≤ c0) (hr1 : Kd.C (Kd.int .i64) w A1 l1.length l1) (hc1 : l1.length ≤ c1)
    (h0 : rd l1 0 = 2) (hn0 : 0 < l0.length) (h512 : l0.length ≤ 512) (hl : l1.length = l0.length) (hp : parB l0 = true) (hL : half_last.f k l1 = some wg) (hD : half_doubts.f k l0 l1 wg = some d) (hw0 : 0 ≤ wg) (hw1 : wg < (l0.length : Int)) (hdl : d.length = l0.length)
    (hr : (if bestH (szH l0 d l1) d l1 (rd (szH l0 d l1) wg) l0.length < 0 then top_Bug.f l0 l1 wg else some (0, bestH (szH l0 d l1) d l1 (rd (szH l0 d l1) wg) l0.length)) = some (r1, r2)) :
    CallsIn Fence.wide n Tryd.prog 35 #[.slice A0 l0.length c0, .slice A1 l1.length c1] w fun e w' => e = .returned (.agg #[.int .i64 r1, .int .i64 r2]) ∧ Below w.heap.size w w' := by
  have hn1 : 1 ≤ n := by omega
  obtain ⟨am, e, g⟩ := Kd.at_int hr1 0 (by omega) (by omega)
  cases e
  have HR0 := Aside0.mk hr0
  have HC0 := Aside0.mk hc0
  have HR1 := Aside0.mk hr1
  have HC1 := Aside0.mk hc1
  have HL := Aside0.mk hL
  have HD := Aside0.mk hD
  have HRR := Aside0.mk hr
  have HM := Aside0.mk (And.intro hw0 (And.intro hw1 (And.intro hl (And.intro h512 (And.intro hdl (And.intro hn0 hp))))))
  have hmix : Tryd.prog.follows .mixedOrders = true := by kernel_rfl
  have hu := Tryd.underlying27
  have hB2 : Below w.heap.size w ((w.alloc (.cells #[.slice (some am) l1.length c1] 23)).alloc (.cells #[.int .i64 0, .int .i64 0] 27)) := ((Below.refl _ w).alloc (Nat.le_refl _) _).alloc (by simp) _
  have bx0 := ((Boxed.new w 23 (.slice (some am) l1.length c1)).alloc (.cells #[.int .i64 0, .int .i64 0] 27))
  have bx1 := Boxed2.new (w.alloc (.cells #[.slice (some am) l1.length c1] 23)) 27 (.int .i64 0) (.int .i64 0)
  simp only [World.size_alloc] at bx1
  have g1 := (hB2.cell (World.block_lt_of_cell? w _ g)).trans g
  rw [h0] at g1
  have cb := bx0.cell
  have HB2 := Aside0.mk (And.intro hB2 (And.intro bx0 bx1))
  have hpos : ((0 : Int) < (l1.length : Int)) = True := eq_true (by omega)
  have hposn : (0 < l1.length) = True := eq_true (by omega)
  clear hr0 hc0 hr1 hc1 hL hD hr hw0 hw1 hl h512 hdl hn0 hp g h0 bx0 bx1 hB2
  obtain ⟨W2, hW2⟩ : ∃ W2, (w.alloc (.cells #[.slice (some am) l1.length c1] 23)).alloc (.cells #[.int .i64 0, .int .i64 0] 27) = W2 := ⟨_, rfl⟩
  rw [hW2] at g1 cb HB2
  rw [show am.add (Int.toNat 0) = am from by cases am; rfl] at g1
  refine callsIn_of_wp Tryd.func35 rfl trivial ?_ rfl
  simp only [Tryd.ntmps35, List.size_toArray, List.length_cons, List.length_nil, Nat.reduceAdd, Nat.reduceSub, Array.replicate_succ, Array.replicate_zero, List.push_toArray, List.append_toArray, List.nil_append, List.cons_append]
  have ff1 : Fence.wide.fn 47 := trivial
  have ff2 : Fence.wide.fn 48 := trivial
  have ff3 : Fence.wide.fn 50 := trivial
  have ff4 : Fence.wide.fn 49 := trivial
  have ff5 : Fence.wide.fn 52 := trivial
  have ff6 : Fence.wide.fn 40 := trivial
  have ls2 : w.heap.size + 1 < W2.heap.size := HB2.out.2.2.lt
  have LS2 := Aside0.mk ls2
  clear ls2
  gi_wp2_with (first
    | (gi_at_call 47; refine ((callsIn_wide (n := n - 1)).2 (half_last.calls k _ _ l1 wg _ (Kd.C_below HR1.out HB2.out.1) HC1.out HL.out)).mono ?_; rintro e w5 ⟨rfl, ⟨nd, rfl⟩⟩; have cb5 : (W2.drewN nd).cell? ⟨w.heap.size, 0, none⟩ = some (.slice (some am) l1.length c1) := HB2.out.2.1.cell)
    | (gi_at_call 48; refine ((callsIn_wide (n := n - 1)).2 (half_doubts.calls k _ _ l0 _ _ l1 wg d _ (Kd.C_below HR0.out (below_dn HB2.out.1 _)) HC0.out (Kd.C_below HR1.out (below_dn HB2.out.1 _)) HC1.out HD.out)).mono ?_; rintro e w6 ⟨v6, rfl, hR6, hb6⟩; obtain ⟨Ad, cd, e6⟩ := Kd.R_slice hR6; subst e6; have cb6 : w6.cell? ⟨w.heap.size, 0, none⟩ = some (.slice (some am) l1.length c1) := (hb6.cell (p := ⟨w.heap.size, 0, none⟩) (Nat.lt_of_succ_lt LS2.out)).trans HB2.out.2.1.cell; have HX6 := Aside0.mk (And.intro hR6 hb6); clear hR6 hb6; obtain ⟨W6a, hW6a⟩ : ∃ W6a, (w6.alloc (.cells #[.slice none 0 0] 54)).setCell ⟨w6.heap.size, 0, none⟩ (.slice Ad d.length cd) = W6a := ⟨_, rfl⟩)
    | (gi_at_call 50; generalize hW7 : World.alloc _ _ = W7; refine (half_sizes (n - 1) (by omega) w W2 w6 W6a W7 _ A0 c0 l0 am c1 l1 Ad cd d HR0.out HR1.out HM.out.2.2.2.1 HM.out.2.2.2.2.2.2 HM.out.2.2.1 HM.out.2.2.2.2.1 HB2.out HX6.out.1 HX6.out.2 hW6a hW7).mono ?_; rintro e w8 ⟨Az, cz, rfl, hz8, h8⟩; obtain ⟨az, e8, g8⟩ := Kd.at_int hz8 wg HM.out.1 HM.out.2.1; subst e8; have p8 := eq_true HM.out.1; have q8 := eq_true HM.out.2.1; have HZ := Aside0.mk (And.intro hz8 h8); clear hz8 h8 hW7 hW6a cb cb5 cb6 g1 hpos hposn hW2))
  clear g8 p8 q8
  obtain ⟨sz, hsz⟩ : ∃ sz, szH l0 d l1 = sz := ⟨_, rfl⟩
  rw [hsz] at HZ HRR
  simp only [hsz]
  obtain ⟨m, hm⟩ : ∃ m, rd sz wg = m := ⟨_, rfl⟩
  rw [hm] at HRR
  simp only [hm]
  gi_loopw [10, 36] (fun v10 v36 wr => ∃ b x : Int, v10 = .int .i64 b ∧ v36 = .int .i64 x ∧ Aside0 (0 ≤ x ∧ x ≤ (l0.length : Int)) ∧ Aside0 (b = bestH sz d l1 m x.toNat ∧ ∃ q, wr = w8.drewN q))
    (fun _ v _ => l0.length - (intOf v).toNat)
  case atStart => exact ⟨-1, 0, by first | rfl | (congr 1; omega), by first | rfl | (congr 1; omega), ⟨by omega, by omega⟩, ⟨rfl, 0, rfl⟩⟩
  case round =>
    obtain ⟨b, x, rfl, rfl, HX, HBq⟩ := hrel
    obtain ⟨hb, q, hq⟩ := HBq.out
    have hbr := bestH_range sz d l1 m x.toNat
    rw [← hb] at hbr
    obtain ⟨⟨hB8, bm8, br8⟩, ⟨bd8, bf8⟩, hd8, hc8⟩ := HZ.out.2
    have hz8 := HZ.out.1
    by_cases hlt : x < (l0.length : Int)
    · have hltb := decide_eq_true hlt
      have hx0 : 0 ≤ x := HX.out.1
      obtain ⟨az', e9, g9⟩ := Kd.at_int hz8 x hx0 hlt
      cases e9
      have g9' : wr.cell? (az.add x.toNat) = some (.int .i64 (rd sz x)) := by rw [hq]; exact g9
      have cf : wr.cell? ⟨W6a.heap.size, 0, none⟩ = some (.func (.func 49) #[] #[.pointer (some ⟨w6.heap.size, 0, none⟩), .pointer (some ⟨w.heap.size, 0, none⟩)]) := by rw [hq]; exact bf8.cell
      have HQ := Aside0.mk (fun k => (open_calls (wr.drewN k) w6.heap.size w.heap.size d l1 Ad cd (some am) c1 (by rw [hq]; exact bd8.cell) (by rw [hq]; exact bm8.cell) (by rw [hq]; exact hd8) (by rw [hq]; exact hc8) x hx0 (by have := HM.out.2.2.2.2.1; omega) (by have := HM.out.2.2.1; omega)).mono (R' := fun e W' => e = .returned (.bool (openB d l1 x)) ∧ ∃ m, W' = (wr.drewN k).drewN m) (fun e W' ⟨h1, h2⟩ => ⟨h1, 0, h2⟩))
      have HF := Aside0.mk (fun (y : Int) k => (off_calls y m (wr.drewN k)).mono (R' := fun e W' => e = .returned (.int .i64 (offW y m)) ∧ ∃ q, W' = (wr.drewN k).drewN q) (fun e W' ⟨h1, h2⟩ => ⟨h1, 0, h2⟩))
      have HK := Aside0.mk (And.intro hb (And.intro hq (And.intro hbr (And.intro hx0 hlt))))
      have hw1 : wrap64 (x + 1) = x + 1 := by have := HM.out.2.2.2.1; unfold wrap64; omega
      have HW := Aside0.mk hw1
      have hbx : bestH sz d l1 m (x + 1).toNat = if openB d l1 x = true ∧ (b < 0 ∨ offW (rd sz x) m < offW (rd sz b) m) then x else b := by
        rw [show (x + 1).toNat = x.toNat + 1 by omega, bestH, ← hb, show ((x.toNat : Nat) : Int) = x by omega]
      have HBX := Aside0.mk hbx
      have hms : l0.length - (x + 1).toNat < l0.length - x.toNat := by omega
      have HMS := Aside0.mk hms
      have hx9 : 0 ≤ x + 1 ∧ x + 1 ≤ (l0.length : Int) := by omega
      have HX9 := Aside0.mk hx9
      clear hb hq hbr hw1 hbx hms hx9 hz8 hB8 bm8 br8 bd8 bf8 hd8 hc8 g9
      replace hlt := eq_true hlt
      replace hx0 := eq_true hx0
      cases ho : openB d l1 x with
      | false =>
        rw [ho] at HQ HBX
        clear ho
        gi_wp2
        refine wpIn_region_quiet_lit rfl hmix (by kernel_rfl) ?_
        iterate 2 (quiet_step_in (fail))
        quiet_step_in (exact CallsIn.quiet_of (callsIn_wide.2 (HQ.out _)))
        quiet_step_in (fail)
        iterate 14 (refine BigFrame.wpQuietIn_skip (fun _ _ _ _ => trivial) (by first | rfl | kernel_rfl | simp [Region.wanted, yielded]) ?_; simp only [Act.put, List.setIfInBounds_toArray, List.set_cons_succ, List.set_cons_zero])
        quiet_step_in (fail)
        refine wpQuietIn_nil ?_
        intro _ hw'
        obtain ⟨nq, hw''⟩ := hw'
        subst hw''
        gi_wp2
        rw [HW.out]
        exact ⟨⟨b, x + 1, rfl, rfl, ⟨HX9.out⟩, ⟨by rw [HBX.out]; simp, q + nq, by rw [HK.out.2.1]; exact World.drewN_drewN _ _ _⟩⟩, by simp only [intOf]; exact HMS.out⟩
      | true =>
        rw [ho] at HQ HBX
        clear ho
        by_cases hb0 : b < 0
        · have hb0b := decide_eq_true hb0
          have HB0 := Aside0.mk hb0
          clear hb0
          gi_wp2
          refine wpIn_region_quiet_lit rfl hmix (by kernel_rfl) ?_
          iterate 2 (quiet_step_in (fail))
          quiet_step_in (exact CallsIn.quiet_of (callsIn_wide.2 (HQ.out _)))
          iterate 4 (quiet_step_in (fail))
          iterate 10 (refine BigFrame.wpQuietIn_skip (fun _ _ _ _ => trivial) (by first | rfl | kernel_rfl | simp [Region.wanted, yielded]) ?_; simp only [Act.put, List.setIfInBounds_toArray, List.set_cons_succ, List.set_cons_zero])
          iterate 2 (quiet_step_in (fail))
          refine wpQuietIn_nil ?_
          intro _ hw'
          obtain ⟨nq, hw''⟩ := hw'
          subst hw''
          gi_wp2
          rw [HW.out]
          exact ⟨⟨x, x + 1, rfl, rfl, ⟨HX9.out⟩, ⟨by rw [HBX.out]; simp [HB0.out], q + nq, by rw [HK.out.2.1]; exact World.drewN_drewN _ _ _⟩⟩, by simp only [intOf]; exact HMS.out⟩
        · have hb0b := decide_eq_false hb0
          have hb1 : 0 ≤ b := by omega
          have hb2 : b < (l0.length : Int) := by have := HK.out.2.2.1.2; have := HX.out; omega
          obtain ⟨az'', e9, g10⟩ := Kd.at_int HZ.out.1 b hb1 hb2
          cases e9
          have g10' : wr.cell? (az.add b.toNat) = some (.int .i64 (rd sz b)) := by rw [HK.out.2.1]; exact g10
          have HB0 := Aside0.mk hb0
          clear hb0 g10
          replace hb1 := eq_true hb1
          replace hb2 := eq_true hb2
          obtain ⟨o1, ho1⟩ : ∃ o1, offW (rd sz x) m = o1 := ⟨_, rfl⟩
          obtain ⟨o2, ho2⟩ : ∃ o2, offW (rd sz b) m = o2 := ⟨_, rfl⟩
          have H1 := Aside0.mk (fun k => HF.out (rd sz x) k)
          have H2 := Aside0.mk (fun k => HF.out (rd sz b) k)
          rw [ho1] at H1 HBX
          rw [ho2] at H2 HBX
          by_cases hoo : o1 < o2
          · have hoob := decide_eq_true hoo
            have HOO := Aside0.mk hoo
            clear hoo ho1 ho2
            gi_wp2
            refine wpIn_region_quiet_lit rfl hmix (by kernel_rfl) ?_
            iterate 2 (quiet_step_in (fail))
            quiet_step_in (exact CallsIn.quiet_of (callsIn_wide.2 (HQ.out _)))
            iterate 6 (quiet_step_in (fail))
            quiet_step_in (exact CallsIn.quiet_of (callsIn_wide.2 (H1.out _)))
            iterate 5 (quiet_step_in (fail))
            quiet_step_in (exact CallsIn.quiet_of (callsIn_wide.2 (H2.out _)))
            iterate 3 (quiet_step_in (fail))
            refine wpQuietIn_nil ?_
            intro _ hw'
            obtain ⟨nq, hw''⟩ := hw'
            subst hw''
            gi_wp2
            rw [HW.out]
            exact ⟨⟨x, x + 1, rfl, rfl, ⟨HX9.out⟩, ⟨by rw [HBX.out]; simp [HOO.out], q + nq, by rw [HK.out.2.1]; exact World.drewN_drewN _ _ _⟩⟩, by simp only [intOf]; exact HMS.out⟩
          · have hoob := decide_eq_false hoo
            have HOO := Aside0.mk hoo
            clear hoo ho1 ho2
            gi_wp2
            refine wpIn_region_quiet_lit rfl hmix (by kernel_rfl) ?_
            iterate 2 (quiet_step_in (fail))
            quiet_step_in (exact CallsIn.quiet_of (callsIn_wide.2 (HQ.out _)))
            iterate 6 (quiet_step_in (fail))
            quiet_step_in (exact CallsIn.quiet_of (callsIn_wide.2 (H1.out _)))
            iterate 5 (quiet_step_in (fail))
            quiet_step_in (exact CallsIn.quiet_of (callsIn_wide.2 (H2.out _)))
            iterate 3 (quiet_step_in (fail))
            refine wpQuietIn_nil ?_
            intro _ hw'
            obtain ⟨nq, hw''⟩ := hw'
            subst hw''
            gi_wp2
            rw [HW.out]
            exact ⟨⟨b, x + 1, rfl, rfl, ⟨HX9.out⟩, ⟨by rw [HBX.out, if_neg (fun h => by have h1 := HB0.out; have h2 := HOO.out; have h3 := h.2; omega)], q + nq, by rw [HK.out.2.1]; exact World.drewN_drewN _ _ _⟩⟩, by simp only [intOf]; exact HMS.out⟩
    · have hltb := decide_eq_false hlt
      have hxl : x.toNat = l0.length := by have := HX.out; omega
      rw [hxl] at hb
      clear hbr
      rw [← hb] at HRR
      have hm' : wr.cell? ⟨w.heap.size, 0, none⟩ = some (.slice (some am) l1.length c1) := by rw [hq]; exact bm8.cell
      have hr' : Boxed2 wr (w.heap.size + 1) 27 (.int .i64 0) (.int .i64 0) := by rw [hq]; exact br8
      have hB' : Below w.heap.size w wr := by rw [hq]; exact below_dn hB8 q
      have HE := Aside0.mk (And.intro hr' hB')
      clear hlt hq hz8 hB8 bm8 br8 bd8 bf8 hd8 hc8 hxl
      have f0_ := hr'.f0
      have f1_ := hr'.f1
      have c0_ := hr'.c0
      have c1_ := hr'.c1
      clear hr' hB'
      by_cases hb0 : b < 0
      · have hb0b := decide_eq_true hb0
        have hrr := HRR.out
        rw [if_pos hb0] at hrr
        have HB0 := Aside0.mk hrr
        clear hb0 hrr hb
        gi_wp2_with (first
          | (gi_at_call 40; refine ((callsIn_wide (n := n - 1)).2 (top_Bug.calls _ _ l0 _ _ l1 wg r1 r2 _ (Kd.C_below HR0.out HE.out.2) HC0.out (Kd.C_below HR1.out HE.out.2) HC1.out HB0.out)).mono ?_; rintro e w9 ⟨rfl, hb9⟩; have hr9 : Boxed2 w9 (w.heap.size + 1) 27 (.int .i64 0) (.int .i64 0) := (hb9.block _ HE.out.1.lt).trans HE.out.1; have HE9 := Aside0.mk (And.intro hr9 (HE.out.2.trans (hb9.mono HE.out.2.size))); have f90 := hr9.f0; have f91 := hr9.f1; have c90 := hr9.c0; have c91 := hr9.c1; clear hr9 hb9))
        refine bodyPost_ret (results_cell_row rfl _ _ (w.heap.size + 1) 27 #[.int .i64 r1, .int .i64 r2] (0, 0) _ rfl (HE9.out.1.put _ _) Tryd.underlying27 rfl (by kernel_rfl)) rfl ⟨rfl, ?_⟩
        exact (HE9.out.2.setCell (p := ⟨w.heap.size + 1, 0, none⟩) (Nat.le_succ _) _).setCell (p := ⟨w.heap.size + 1, 1, none⟩) (Nat.le_succ _) _
      · have hrr := HRR.out
        rw [if_neg hb0] at hrr
        clear hb HBq
        obtain ⟨e1_, e2_⟩ := Prod.mk.inj (Option.some.inj hrr)
        subst e1_
        subst e2_
        have hb0b := decide_eq_false hb0
        clear hb0 hrr HRR
        gi_wp2
        refine bodyPost_ret (results_cell_row rfl _ _ (w.heap.size + 1) 27 #[.int .i64 0, .int .i64 b] (0, 0) _ rfl (HE.out.1.put _ _) Tryd.underlying27 rfl (by kernel_rfl)) rfl ⟨rfl, ?_⟩
        exact (HE.out.2.setCell (p := ⟨w.heap.size + 1, 0, none⟩) (Nat.le_succ _) _).setCell (p := ⟨w.heap.size + 1, 1, none⟩) (Nat.le_succ _) _
end
set_option maxHeartbeats 8000000 in
set_option maxRecDepth 100000 in
theorem half_Ask.calls (k : Nat) (A0 : Option Addr) (c0 : Nat) (l0 : List (S41)) (A1 : Option Addr) (c1 : Nat) (l1 : List Int) (r1 : Int) (r2 : Int) (w : World) (hr0 : Kd.C k41 w A0 l0.length l0) (hc0 : l0.length ≤ c0) (hr1 : Kd.C (Kd.int .i64) w A1 l1.length l1) (hc1 : l1.length ≤ c1) (h : half_Ask.f k l0 l1 = some (r1, r2)) (hG : GOK w) :
    Calls Tryd.prog 35 #[.slice A0 l0.length c0, .slice A1 l1.length c1] w fun e w' => e = .returned (.agg #[.int .i64 r1, .int .i64 r2]) ∧ Below w.heap.size w w' := by
  unfold half_Ask.f at h
  by_cases cg : 0 < l0.length ∧ l0.length ≤ 512 ∧ l1.length = l0.length ∧ parB l0 = true
  · rw [if_pos cg] at h
    by_cases c2 : rd l1 0 = 2
    · rw [if_pos c2] at h
      obtain ⟨wg, hL, h⟩ := Option.bind_eq_some_iff.mp h
      obtain ⟨d, hD, h⟩ := Option.bind_eq_some_iff.mp h
      by_cases cw : 0 ≤ wg ∧ wg < (l0.length : Int) ∧ d.length = l0.length
      · rw [if_pos cw] at h
        exact (callsIn_wide (n := 4)).1 (half_Ask.inW 4 (by omega) k A0 c0 l0 A1 c1 l1 wg d r1 r2 w hr0 hc0 hr1 hc1 c2 cg.1 cg.2.1 cg.2.2.1 cg.2.2.2 hL hD cw.1 cw.2.1 cw.2.2 h)
      · rw [if_neg cw] at h; cases h
    · rw [if_neg c2] at h
      obtain ⟨am, e, g⟩ := Kd.at_int hr1 0 (by omega) (by omega)
      cases e
      have HR0 := Aside0.mk hr0
      have HC0 := Aside0.mk hc0
      have HR1 := Aside0.mk hr1
      have HC1 := Aside0.mk hc1
      have HA := Aside0.mk h
      have hB2 : Below w.heap.size w ((w.alloc (.cells #[.slice (some am) l1.length c1] 23)).alloc (.cells #[.int .i64 0, .int .i64 0] 27)) := ((Below.refl _ w).alloc (Nat.le_refl _) _).alloc (by simp) _
      have bx0 := ((Boxed.new w 23 (.slice (some am) l1.length c1)).alloc (.cells #[.int .i64 0, .int .i64 0] 27))
      have bx1 := Boxed2.new (w.alloc (.cells #[.slice (some am) l1.length c1] 23)) 27 (.int .i64 0) (.int .i64 0)
      simp only [World.size_alloc] at bx1
      have g1 := (hB2.cell (World.block_lt_of_cell? w _ g)).trans g
      rw [show am.add (Int.toNat 0) = am from by cases am; rfl] at g1
      have cb := bx0.cell
      have HB2 := Aside0.mk (And.intro hB2 (And.intro bx0 bx1))
      have hpos : ((0 : Int) < (l1.length : Int)) = True := eq_true (by omega)
      have hposn : (0 < l1.length) = True := eq_true (by omega)
      have hne : (rd l1 0 != 2) = true := bne_iff_ne.2 c2
      have hu := Tryd.underlying27
      obtain ⟨W2, hW2⟩ : ∃ W2, (w.alloc (.cells #[.slice (some am) l1.length c1] 23)).alloc (.cells #[.int .i64 0, .int .i64 0] 27) = W2 := ⟨_, rfl⟩
      rw [hW2] at g1 cb HB2
      have HG := Aside0.mk hG
      clear hr0 hc0 hr1 hc1 h g bx0 bx1 hB2 cg c2 hG
      go_enter Tryd.func35, Tryd.ntmps35
      go_wp2_with (first
        | (go_at_call 29; (refine (top_Ask.calls k _ _ l0 _ _ l1 r1 r2 _ (Kd.C_below HR0.out HB2.out.1) HC0.out (Kd.C_below HR1.out HB2.out.1) HC1.out HA.out).mono ?_); rintro e w9 ⟨rfl, hb9⟩; have hr9 : Boxed2 w9 (w.heap.size + 1) 27 (.int .i64 0) (.int .i64 0) := (hb9.block _ HB2.out.2.2.lt).trans HB2.out.2.2; have HE9 := Aside0.mk (And.intro hr9 (HB2.out.1.trans (hb9.mono HB2.out.1.size))); have f90 := hr9.f0; have f91 := hr9.f1; have c90 := hr9.c0; have c91 := hr9.c1; clear hr9 hb9))
      refine bodyPost_ret (results_cell_row rfl _ _ (w.heap.size + 1) 27 #[.int .i64 r1, .int .i64 r2] (0, 0) _ rfl (HE9.out.1.put _ _) Tryd.underlying27 rfl (by kernel_rfl)) rfl ⟨rfl, ?_⟩
      exact (HE9.out.2.setCell (p := ⟨w.heap.size + 1, 0, none⟩) (Nat.le_succ _) _).setCell (p := ⟨w.heap.size + 1, 1, none⟩) (Nat.le_succ _) _
  · rw [if_neg cg] at h; cases h

end Go.Proofs.YtpbobdgenjhjoaaDoor.G
