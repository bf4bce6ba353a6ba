-- Laid by the session's own driver gp.py over the kit's printer. Not trusted: Lean checks it.
import Derived.Test.YtgcdbpnflchobaaDoorBase
import Derived.Test.YtgcdbpnflchobaaDoorGT
namespace Go.Proofs.YtgcdbpnflchobaaDoor.G
open Go.RowKit Go.Proofs.YtgcdbpnflchobaaDoorW.PrintWords Go.Proofs.YtgcdbpnflchobaaDoorW.PrintLast Go.Proofs.YtgcdbpnflchobaaDoorW.PrintMore
attribute [local go_sem] max2_int min2_int max_two min_two max_three min_three max_four min_four   -- for this text's walks alone
set_option linter.unusedVariables false
set_option linter.unusedSimpArgs false

/-! ### back_Last: function 28, given -/
/-- the last node that fails, from place n on down -/
def lastF (ns : List S44) : Nat → Option Nat
  | 0 => none
  | n + 1 => if ((rd_T44 ns (n : Int)).f3).toList = ([33] : List UInt8) then some n else lastF ns n
structure BN where
  i : Int
  f0 : Int
  f1 : Int
  A2 : Option Addr
  n2 : Nat
  c2 : Nat
  f3 : ByteArray
def BN.enc (x : BN) : Array Value := #[.int .i64 x.i, .agg #[.int .i64 x.f0, .int .i64 x.f1, .slice x.A2 x.n2 x.c2, .string x.f3]]
def BN.key (x : BN) : Int × ByteArray := (x.i, x.f3)
/-- the nodes' results from place n on down -/
def dnL (ns : List S44) : Nat → List (Int × ByteArray)
  | 0 => []
  | n + 1 => ((n : Int), (rd_T44 ns (n : Int)).f3) :: dnL ns n
theorem dnL_len (ns : List S44) : ∀ n, (dnL ns n).length = n
  | 0 => rfl
  | n + 1 => by rw [dnL, List.length_cons, dnL_len ns n]
section
attribute [local go_sem] Oper.semAt_some
set_option maxRecDepth 100000 in
set_option maxHeartbeats 4000000 in
theorem backward_1.in_ (n : Nat) (hn : 1 ≤ n) (l Bn n₁ : Nat) (A0 : Option Addr) (c0 : Nat) (l0 : List S44) (h512 : l0.length ≤ 512) (w : World) (hC : Kd.C k44 w A0 l0.length l0) (hbn : Bn < n₁) (hw : w.heap.size ≤ n₁) (J Jx : List BN → World → Prop)
    (hY : ∀ pre x W, J pre W → pre.length < l0.length → YieldAt Fence.wide (n - 1) Tryd.prog l x.enc W fun e W' => (e = .returned (.bool true) ∧ J (pre ++ [x]) W' ∧ Below n₁ W W') ∨ (e = .returned (.bool false) ∧ Jx (pre ++ [x]) W'))
    (W : World) (hB : Below w.heap.size w W) (hBn : W.cell? ⟨Bn, 0, none⟩ = some (.slice A0 l0.length c0)) (h0 : J [] W) :
    CallsIn Fence.wide n Tryd.prog 50 #[.func (.yield l) #[] #[], .pointer (some ⟨Bn, 0, none⟩)] W fun e W' => (∃ v, e = .returned v) ∧
      ((∃ ys, ys.map BN.key = dnL l0 l0.length ∧ J ys W') ∨ (∃ pre, pre.map BN.key <+: dnL l0 l0.length ∧ Jx pre W')) := by
  refine callsIn_of_wp Tryd.func50 rfl trivial ?_ rfl
  simp only [Tryd.ntmps50, List.size_toArray, List.length_cons, List.length_nil, Nat.reduceAdd, Nat.reduceSub, Array.replicate_succ, Array.replicate_zero, List.push_toArray, List.append_toArray, List.nil_append, List.cons_append]
  gi_wp2
  gi_loopw [3] (fun v wr => ∃ x : Int, v = .int .i64 x ∧ Aside0 (-1 ≤ x ∧ x < (l0.length : Int)) ∧ Aside0 ((∃ pre : List BN, J pre wr ∧ pre.map BN.key ++ dnL l0 (x + 1).toNat = dnL l0 l0.length) ∧ Below n₁ W wr))
    (fun v _ => (intOf v + 1).toNat)
  case atStart => exact ⟨(l0.length : Int) - 1, by first | rfl | (congr 1; omega) | (simp; omega), ⟨by omega, by omega⟩, ⟨⟨[], h0, by rw [show ((l0.length : Int) - 1 + 1).toNat = l0.length by omega]; rfl⟩, Below.refl _ _⟩⟩
  case round =>
    obtain ⟨x, rfl, HX, HJ⟩ := hrel
    have hcn := (HJ.out.2.cell (p := ⟨Bn, 0, none⟩) hbn).trans hBn
    by_cases hx : 0 ≤ x
    · have hlt : x < (l0.length : Int) := HX.out.2
      obtain ⟨⟨pre, hj, hpre⟩, hbel⟩ := HJ.out
      obtain ⟨ad, A2, c2, e0, g0, g1, g2, g3, hl2, hi2⟩ := at_T44 hC x hx hlt
      cases e0
      have hbw : Below w.heap.size w wr := hB.trans (hbel.mono hw)
      replace g0 := (hbw.cell (World.block_lt_of_cell? w _ g0)).trans g0
      replace g1 := (hbw.cell (World.block_lt_of_cell? w _ g1)).trans g1
      replace g2 := (hbw.cell (World.block_lt_of_cell? w _ g2)).trans g2
      replace g3 := (hbw.cell (World.block_lt_of_cell? w _ g3)).trans g3
      clear hl2 hi2
      rw [show (x + 1).toNat = x.toNat + 1 by omega, dnL, show ((x.toNat : Nat) : Int) = x by omega] at hpre
      have hlen : pre.length < l0.length := by
        have h1 := congrArg List.length hpre
        rw [List.length_append, List.length_map, List.length_cons, dnL_len, dnL_len] at h1
        omega
      obtain ⟨fn, tmps, assign, body, hy, hR⟩ := hY pre ⟨x, (rd_T44 l0 x).f0, (rd_T44 l0 x).f1, A2, (rd_T44 l0 x).f2.length, c2, (rd_T44 l0 x).f3⟩ wr hj hlen
      simp only [BN.enc] at hy
      have HP := Aside0.mk (And.intro hpre (And.intro hbel hx))
      have hxb := decide_eq_true hx
      have HYR := Aside0.mk (And.intro hR (And.intro hY hB))
      clear hpre hlen hj hbel hR hY hB hBn hC h0
      replace hlt := eq_true hlt
      replace hx := eq_true hx
      gi_wp2
      refine HYR.out.1.mono ?_
      rintro e W3 (⟨rfl, h1, h2⟩ | ⟨rfl, h1⟩)
      · have HQ := Aside0.mk (And.intro h1 h2)
        clear h1 h2
        have hw1 := Aside0.mk (show wrap64 (x - 1) = x - 1 from by have := HX.out; unfold wrap64; omega)
        gi_wp2
        refine ⟨⟨x - 1, by rw [hw1.out], ⟨by have := HX.out; have := HP.out.2.2; omega, by have := HX.out; omega⟩, ⟨⟨_, HQ.out.1, ?_⟩, HP.out.2.1.trans HQ.out.2⟩⟩, ?_⟩
        · rw [← HP.out.1, List.map_append, List.append_assoc, show (x - 1 + 1).toNat = x.toNat by omega]; rfl
        · rw [hw1.out]
          have := HP.out.2.2
          simp only [intOf]
          omega
      · have HQ := Aside0.mk h1
        clear h1
        gi_wp2
        refine bodyPost_ret (results_none rfl _ _ _) rfl ?_
        refine ⟨⟨_, rfl⟩, .inr ⟨_, ?_, HQ.out⟩⟩
        rw [← HP.out.1, List.map_append]
        exact ⟨dnL l0 x.toNat, by rw [List.append_assoc]; rfl⟩
    · have hxb := decide_eq_false hx
      have HN := Aside0.mk hx
      clear hx hY hC
      gi_wp2
      go_end0
      obtain ⟨⟨pre, hj, hpre⟩, hbel⟩ := HJ.out
      rw [show (x + 1).toNat = 0 by have := HX.out; have := HN.out; omega, dnL, List.append_nil] at hpre
      exact ⟨⟨_, rfl⟩, .inl ⟨pre, hpre, hj⟩⟩
end
def back_Last.f (k : Nat) (l0 : List S44) : Option (Int × Bool × Int) := (trail_May.f k l0).bind fun t => if t = true then (match lastF l0 l0.length with | some i => some ((i : Int), true, 0) | none => some (0, false, 0)) else some (0, false, 2400)
theorem back_Last.mono : ∀ a0 k, LeO (back_Last.f k a0) (back_Last.f (k + 1) a0) := by
  intro a0 k
  unfold back_Last.f
  exact LeO.bind (trail_May.mono _ _) (fun _ => LeO.refl _)
theorem lastF_none (ns : List S44) : ∀ n, (∀ p ∈ dnL ns n, p.2.toList ≠ ([33] : List UInt8)) → lastF ns n = none
  | 0, _ => rfl
  | n + 1, h => by
    rw [dnL] at h
    rw [lastF, if_neg (h _ List.mem_cons_self), lastF_none ns n (fun p hp => h p (List.mem_cons_of_mem _ hp))]
theorem lastF_some (ns : List S44) (p : Int × ByteArray) (hp : p.2.toList = ([33] : List UInt8)) : ∀ (n : Nat) (q : List (Int × ByteArray)), q ++ [p] <+: dnL ns n → (∀ y ∈ q, y.2.toList ≠ ([33] : List UInt8)) → ∃ i : Nat, lastF ns n = some i ∧ p.1 = (i : Int)
  | 0, q, h, _ => by
    have := List.IsPrefix.length_le h
    rw [dnL] at this
    simp at this
  | n + 1, q, h, hq => by
    rw [dnL] at h
    cases q with
    | nil =>
      rw [List.nil_append, List.cons_prefix_cons] at h
      have hp' : ((rd_T44 ns (n : Int)).f3).toList = ([33] : List UInt8) := by have := hp; rw [h.1] at this; exact this
      rw [lastF, if_pos hp']
      exact ⟨n, rfl, by rw [h.1]⟩
    | cons y q =>
      rw [List.cons_append, List.cons_prefix_cons] at h
      have h1 := hq y List.mem_cons_self
      rw [lastF, if_neg (by rw [h.1] at h1; exact h1)]
      exact lastF_some ns p hp n q h.2 (fun z hz => hq z (List.mem_cons_of_mem _ hz))
theorem backward.in_ (n : Nat) (hn : 1 ≤ n) (A0 : Option Addr) (len c0 : Nat) (w : World) :
    CallsIn Fence.wide n Tryd.prog 43 #[.slice A0 len c0] w fun e w' => e = .returned (.func (.func 50) #[] #[.pointer (some ⟨w.heap.size, 0, none⟩)]) ∧ w' = w.alloc (.cells #[.slice A0 len c0] 22) := by
  refine callsIn_of_wp Tryd.func43 rfl trivial ?_ rfl
  simp only [Tryd.ntmps43, List.size_toArray, List.length_cons, List.length_nil, Nat.reduceAdd, Nat.reduceSub, Array.replicate_succ, Array.replicate_zero, List.push_toArray, List.append_toArray, List.nil_append, List.cons_append]
  gi_wp2
  go_ret
  exact ⟨rfl, rfl⟩
theorem backward.stops (n : Nat) (hn : 1 ≤ n) (A0 : Option Addr) (c0 : Nat) (l0 : List S44) (h512 : l0.length ≤ 512) (w w7 : World) (hC : Kd.C k44 w A0 l0.length l0) (hB : Below w.heap.size w w7) (Bn n₁ : Nat) (hn₁ : n₁ ≤ w7.heap.size) (hbn : Bn < n₁) (hw : w.heap.size ≤ n₁)
    (hBn : w7.cell? ⟨Bn, 0, none⟩ = some (.slice A0 l0.length c0)) :
    SeqStopsK Fence.wide n Tryd.prog 50 #[.pointer (some ⟨Bn, 0, none⟩)] BN.enc (Below n₁) (fun ys => ys.map BN.key = dnL l0 l0.length) (fun pre => pre.map BN.key <+: dnL l0 l0.length) l0.length w7 := fun l J Jx W hW hJ hJx hY h0 =>
  backward_1.in_ n hn l Bn n₁ A0 c0 l0 h512 w hC hbn hw J Jx hY W (hB.trans (hW.mono hB.size)) ((hW.cell (p := ⟨Bn, 0, none⟩) (by show Bn < w7.heap.size; omega)).trans hBn) h0
theorem bx_three {w w6 : World} {a b c : Value} {s t u : TypeId} (hb : Below (((w.alloc (.cells #[a] s)).alloc (.cells #[b] t)).alloc (.cells #[c] u)).heap.size (((w.alloc (.cells #[a] s)).alloc (.cells #[b] t)).alloc (.cells #[c] u)) w6) :
    Boxed w6 w.heap.size s a ∧ Boxed w6 (w.heap.size + 1) t b ∧ Boxed w6 (w.heap.size + 1 + 1) u c ∧ Below w.heap.size w w6 ∧ w.heap.size + 3 ≤ w6.heap.size := by
  have h1 := ((Boxed.new w s a).alloc (.cells #[b] t)).alloc (.cells #[c] u)
  have h2 := (Boxed.new (w.alloc (.cells #[a] s)) t b).alloc (.cells #[c] u)
  have h3 := Boxed.new ((w.alloc (.cells #[a] s)).alloc (.cells #[b] t)) u c
  simp only [World.size_alloc] at h2 h3
  have hs := hb.size
  simp only [World.size_alloc] at hs
  have hB : Below w.heap.size w (((w.alloc (.cells #[a] s)).alloc (.cells #[b] t)).alloc (.cells #[c] u)) := (((Below.refl _ w).alloc (Nat.le_refl _) _).alloc (by simp) _).alloc (by simp; omega) _
  exact ⟨(hb.block _ (by simp only [World.size_alloc]; omega)).trans h1, (hb.block _ (by simp only [World.size_alloc]; omega)).trans h2, (hb.block _ (by simp only [World.size_alloc]; omega)).trans h3, hB.trans (hb.mono (by simp only [World.size_alloc]; omega)), by omega⟩
theorem boxed_ownFrom {β : Type} (B b : Nat) (t : TypeId) (v : Value) : OwnFrom B (fun (_ : β) W => Boxed W b t v) := Own.from (boxed_own b t (fun _ => v)) B
theorem last_ends {W w : World} {D : Nat} {tmps : Array Value} {i : Int} {b : Bool} (hK : W.heap[D]? = some (.deferred (some []))) (b0 : Boxed W w.heap.size 3 (.int .i64 i)) (b1 : Boxed W (w.heap.size + 1) 4 (.bool b)) (b2 : Boxed W (w.heap.size + 1 + 1) 25 (.int .i64 0))
    (hB : Below w.heap.size w W) (hD : w.heap.size ≤ D) (h2 : tmps[2]? = some (.pointer (some ⟨w.heap.size, 0, none⟩))) (h3 : tmps[3]? = some (.pointer (some ⟨w.heap.size + 1, 0, none⟩))) (h4 : tmps[4]? = some (.pointer (some ⟨w.heap.size + 1 + 1, 0, none⟩))) :
    bodyPostM Fence.wide 4 Tryd.prog Tryd.f28 (fun e w' => e = .returned (.tuple #[.int .i64 i, .bool b, .int .i64 0]) ∧ Below w.heap.size w w') .ret { tmps := tmps, defers := [{ target := .collected D, args := #[] }] } W := by
  have e0 := Go.cell_kept b0.cell (grownBy_putObj' _ D (.deferred none)) (fun r e => by cases e; exact ⟨_, hK, rfl⟩)
  have e1 := Go.cell_kept b1.cell (grownBy_putObj' _ D (.deferred none)) (fun r e => by cases e; exact ⟨_, hK, rfl⟩)
  have e2 := Go.cell_kept b2.cell (grownBy_putObj' _ D (.deferred none)) (fun r e => by cases e; exact ⟨_, hK, rfl⟩)
  refine ⟨by simp, .inl ⟨_, _, rfl, run_takeDeferred hK, ?_⟩⟩
  refine ⟨.tuple #[.int .i64 i, .bool b, .int .i64 0], ?_, rfl, hB.trans (belowK_b (w := w) (Nat.le_refl _) W D _ _ hD hK rfl rfl)⟩
  simp [results, Tryd.f28, go_sem, e0, e1, e2, h2, h3, h4]
section
attribute [local go_sem] Oper.semAt_some
set_option maxHeartbeats 8000000 in
set_option maxRecDepth 100000 in
theorem back_Last.inW (k : Nat) (A0 : Option Addr) (c0 : Nat) (l0 : List (S44)) (r1 : Int) (r2 : Bool) (w : World) (hr0 : Kd.C k44 w A0 l0.length l0) (hc0 : l0.length ≤ c0) (hA : trail_May.f k l0 = some true) (hr : (match lastF l0 l0.length with | some i => ((i : Int), true) | none => (0, false)) = (r1, r2)) (hG : GOK w) :
    CallsIn Fence.wide 4 Tryd.prog 28 #[.slice A0 l0.length c0] w fun e w' => e = .returned (.tuple #[.int .i64 r1, .bool r2, .int .i64 0]) ∧ Below w.heap.size w w' := by
  have HR0 := Aside0.mk hr0
  have HC0 := Aside0.mk hc0
  have HA := Aside0.mk hA
  have HRR := Aside0.mk hr
  have hM := trail_May.true_spec hA
  have HM := Aside0.mk hM
  clear hr0 hc0 hA hr hM
  have HB := Aside0.mk (Below.refl w.heap.size w)
  refine callsIn_of_wp_marks Tryd.func28 rfl trivial ?_ rfl
  simp only [Tryd.ntmps28, List.size_toArray, List.length_cons, List.length_nil, Nat.reduceAdd, Nat.reduceSub, Array.replicate_succ, Array.replicate_zero, List.push_toArray, List.append_toArray, List.nil_append, List.cons_append]
  have ff1 : Fence.wide.fn 41 := trivial
  have ff2 : Fence.wide.fn 43 := trivial
  gi_wp2_with (first
    | (gi_at_call 41; (refine ((callsIn_wide (n := 4 - 1)).2 (trail_May.calls k _ _ l0 true _ (Kd.C_below HR0.out (((((Below.refl _ w).alloc (Nat.le_refl _) _).alloc (by simp) _).alloc (by simp; omega) _))) HC0.out HA.out (GOK.below hG (((((Below.refl _ w).alloc (Nat.le_refl _) _).alloc (by simp) _).alloc (by simp; omega) _))))).mono ?_); rintro e w6 ⟨rfl, hb⟩; have HX := Aside0.mk (bx_three hb); clear hb)
    | (gi_at_call 43; refine (backward.in_ _ (by omega) _ _ _ _).mono ?_; rintro e w7 ⟨rfl, rfl⟩))
  obtain ⟨bx0, bx1, bx2, hB6, hs6⟩ := HX.out
  obtain ⟨W0, hW0⟩ : ∃ W0, w6.alloc (.cells #[.slice A0 l0.length c0] 22) = W0 := ⟨_, rfl⟩
  have bN := Boxed.new w6 22 (.slice A0 l0.length c0)
  have hs0 : W0.heap.size = w6.heap.size + 1 := by rw [← hW0]; simp
  have hB0 : Below w.heap.size w W0 := by rw [← hW0]; exact hB6.alloc hB6.size _
  rw [hW0] at bN
  have by0 : Boxed W0 w.heap.size 3 (.int .i64 0) := by rw [← hW0]; exact bx0.alloc _
  have by1 : Boxed W0 (w.heap.size + 1) 4 (.bool false) := by rw [← hW0]; exact bx1.alloc _
  have by2 : Boxed W0 (w.heap.size + 1 + 1) 25 (.int .i64 0) := by rw [← hW0]; exact bx2.alloc _
  clear bx0 bx1 bx2
  rw [hW0]
  clear hW0
  have HW0 := Aside0.mk (And.intro hs0 hs6)
  clear hs0 hs6
  refine wpIn_rangeFunc_ownH (n := 4) rfl (by omega) (gf := 50) (lb := #[.pointer (some ⟨w6.heap.size, 0, none⟩)]) rfl trivial (enters_of Tryd.func50 (by kernel_rfl) rfl)
    (backward.stops (4 - 1) (by omega) A0 c0 l0 HM.out.2.1 w W0 HR0.out hB0 w6.heap.size W0.heap.size (Nat.le_refl _) (by have := HW0.out; omega) hB0.size bN.cell) belowK_t (belowK_b (Nat.le_refl _)) (Below.refl _ _) (fun _ => rfl)
    (fun pre W => ((Boxed W w.heap.size 3 (.int .i64 0) ∧ Boxed W (w.heap.size + 1) 4 (.bool false)) ∧ Boxed W (w.heap.size + 1 + 1) 25 (.int .i64 0)) ∧ Below w.heap.size W0 W ∧ (∀ y ∈ pre.map BN.key, y.2.toList ≠ ([33] : List UInt8)))
    (fun c pre W => c = .ret ∧ ∃ (q : List BN) (x : BN), pre = q ++ [x] ∧ x.f3.toList = ([33] : List UInt8) ∧ (∀ y ∈ q.map BN.key, y.2.toList ≠ ([33] : List UInt8)) ∧ ((Boxed W w.heap.size 3 (.int .i64 x.i) ∧ Boxed W (w.heap.size + 1) 4 (.bool true)) ∧ Boxed W (w.heap.size + 1 + 1) 25 (.int .i64 0)) ∧ Below w.heap.size W0 W)
    (OwnFrom.and (OwnFrom.and (OwnFrom.and (boxed_ownFrom _ _ _ _) (boxed_ownFrom _ _ _ _)) (boxed_ownFrom _ _ _ _)) (OwnFrom.and (ownFrom_below hB0.size hB0.size) (ownFrom_pure _ _)))
    (fun c s A B row hs hg hr => by
      obtain ⟨h1, q, x, h2, h3, h4, h5, h6⟩ := hs
      exact ⟨h1, q, x, h2, h3, h4, (OwnFrom.and (OwnFrom.and (boxed_ownFrom (β := Unit) _ _ _ _) (boxed_ownFrom _ _ _ _)) (boxed_ownFrom _ _ _ _)) () A B row h5 hg hr, ownFrom_below (β := Unit) hB0.size hB0.size () A B row h6 hg hr⟩)
    ⟨⟨⟨by0, by1⟩, by2⟩, Below.refl _ _, by simp⟩
    (fun x a' W => ∃ Bx, W.cell? ⟨Bx, 3, none⟩ = some (.string x.f3) ∧ a' = { tmps := #[.slice A0 l0.length c0, undef, .pointer (some ⟨w.heap.size, 0, none⟩), .pointer (some ⟨w.heap.size + 1, 0, none⟩), .pointer (some ⟨w.heap.size + 1 + 1, 0, none⟩), .int .i64 x.i, .pointer (some ⟨Bx, 0, none⟩), .slice A0 l0.length c0, .bool true, .bool false, .slice A0 l0.length c0, .func (.func 50) #[] #[.pointer (some ⟨w6.heap.size, 0, none⟩)], .int .i64 x.i, .agg #[.int .i64 x.f0, .int .i64 x.f1, .slice x.A2 x.n2 x.c2, .string x.f3], undef, undef, undef, undef], defers := [] })
    (fun x a' _ X Y row hs hg hr => by obtain ⟨Bx, h1, h2⟩ := hs; exact ⟨Bx, Go.cell_kept h1 hg (fun r e => (hr r e).2), h2⟩)
    ?assign ?body ?done ?stop
  case assign =>
    rintro l pre x W K ⟨⟨⟨b0, b1⟩, b2⟩, hb, hq⟩ hK
    have HQ := Aside0.mk hq
    clear hq
    simp only [BN.enc]
    gi_wp2
    refine hK _ _ ((KeepsOthers.alloc _ _).from _) ((Below.refl _ W).alloc hb.size _) ⟨⟨⟨b0.alloc _, b1.alloc _⟩, b2.alloc _⟩, hb.alloc (Nat.le_trans hB0.size hb.size) _, HQ.out⟩ ⟨W.heap.size, ?_, rfl⟩
    unfold World.cell?
    rw [World.alloc_heap_new]
    rfl
  case body =>
    rintro l pre x a' W hl ⟨r, hr⟩ ⟨⟨⟨b0, b1⟩, b2⟩, hb, hq⟩ ⟨Bx, hBx, rfl⟩ hlt
    have HQ := Aside0.mk (And.intro hq hb)
    have hsz := Nat.le_trans hB0.size hb.size
    clear hq hlt hr hl
    have c0_ := b0.cell
    have c1_ := b1.cell
    have c2_ := b2.cell
    have f0_ := b0.frozen
    have f1_ := b1.frozen
    have f2_ := b2.frozen
    have l0_ := b0.lt
    by_cases h3 : x.f3.toList = ([33] : List UInt8)
    · have h3b : (x.f3.toList == ([33] : List UInt8)) = true := beq_iff_eq.2 h3
      have H3 := Aside0.mk h3
      clear h3
      gi_wp2
      clear c0_ c1_ c2_ f0_ f1_ f2_
      refine ⟨(((KeepsOthers.setCell _ _ _).trans (KeepsOthers.setCell _ _ _)).trans (KeepsOthers.setCell _ _ _)).from _, rfl, pre, x, rfl, H3.out, HQ.out.1, ⟨⟨?_, ?_⟩, ?_⟩, ?_⟩
      · exact ((b0.set _).other (by omega) _).other (by omega) _
      · exact ((b1.other (by omega) _).set _).other (by omega) _
      · exact ((b2.other (by omega) _).other (by omega) _).set _
      · exact ((HQ.out.2.setCell (p := ⟨w.heap.size, 0, none⟩) (Nat.le_refl _) _).setCell (p := ⟨w.heap.size + 1, 0, none⟩) (Nat.le_succ _) _).setCell (p := ⟨w.heap.size + 1 + 1, 0, none⟩) (by show w.heap.size ≤ w.heap.size + 1 + 1; omega) _
    · have h3b : (x.f3.toList == ([33] : List UInt8)) = false := beq_eq_false_iff_ne.2 h3
      have H3 := Aside0.mk h3
      clear h3
      gi_wp2
      refine ⟨KeepsFrom.refl _ _, Below.refl _ _, ⟨⟨b0, b1⟩, b2⟩, HQ.out.2, ?_⟩
      intro y hy
      rw [List.map_append, List.mem_append] at hy
      rcases hy with hy | hy
      · exact HQ.out.1 y hy
      · rw [List.map_cons, List.map_nil, List.mem_singleton] at hy
        subst hy
        exact H3.out
  case done =>
    rintro D ys W hD hS ⟨⟨⟨b0, b1⟩, b2⟩, hb, hq⟩ hK
    have HQ := Aside0.mk (And.intro hq (And.intro hb hS))
    clear hq hS
    have c0_ := b0.cell
    have c1_ := b1.cell
    have c2_ := b2.cell
    have f0_ := b0.frozen
    have f1_ := b1.frozen
    have f2_ := b2.frozen
    gi_wp2
    clear c0_ c1_ c2_ f0_ f1_ f2_
    have hl : lastF l0 l0.length = none := lastF_none l0 _ (fun p hp => HQ.out.1 p (by rw [HQ.out.2.2]; exact hp))
    have hrr := HRR.out
    rw [hl] at hrr
    obtain ⟨rfl, rfl⟩ := Prod.mk.inj hrr
    exact last_ends ((((KeepsOthers.setCell _ _ _).trans (KeepsOthers.setCell _ _ _)).trans (KeepsOthers.setCell _ _ _)).same D _ hK rfl) (((b0.set _).other (by omega) _).other (by omega) _) (((b1.other (by omega) _).set _).other (by omega) _) (((b2.other (by omega) _).other (by omega) _).set _)
      ((((hB0.trans HQ.out.2.1).setCell (p := ⟨w.heap.size, 0, none⟩) (Nat.le_refl _) _).setCell (p := ⟨w.heap.size + 1, 0, none⟩) (Nat.le_succ _) _).setCell (p := ⟨w.heap.size + 1 + 1, 0, none⟩) (by show w.heap.size ≤ w.heap.size + 1 + 1; omega) _) (by have := hB0.size; omega) rfl rfl rfl
  case stop =>
    rintro D c pre W hD hSp ⟨rfl, q, x, h1, h2, h3, ⟨⟨b0, b1⟩, b2⟩, hb⟩ hK
    have HQ := Aside0.mk (And.intro hSp (And.intro h1 (And.intro h2 (And.intro h3 hb))))
    clear hSp h1 h2 h3
    have c0_ := b0.cell
    have c1_ := b1.cell
    have c2_ := b2.cell
    gi_wp2
    clear c0_ c1_ c2_
    obtain ⟨hSp, h1, h2, h3, hb⟩ := HQ.out
    obtain ⟨i, hi, hxi⟩ := lastF_some l0 x.key h2 l0.length (q.map BN.key) (by rw [h1, List.map_append] at hSp; exact hSp) h3
    have hrr := HRR.out
    rw [hi] at hrr
    obtain ⟨rfl, rfl⟩ := Prod.mk.inj hrr
    have hx2 : x.i = (i : Int) := hxi
    rw [hx2] at b0
    exact last_ends hK b0 b1 b2 (hB0.trans hb) (by have := hB0.size; omega) rfl rfl rfl
end
set_option maxHeartbeats 8000000 in
set_option maxRecDepth 100000 in
theorem back_Last.calls (k : Nat) (A0 : Option Addr) (c0 : Nat) (l0 : List (S44)) (r1 : Int) (r2 : Bool) (r3 : Int) (w : World) (hr0 : Kd.C k44 w A0 l0.length l0) (hc0 : l0.length ≤ c0) (h : back_Last.f k l0 = some (r1, r2, r3)) (hG : GOK w) :
    Calls Tryd.prog 28 #[.slice A0 l0.length c0] w fun e w' => e = .returned (.tuple #[.int .i64 r1, .bool r2, .int .i64 r3]) ∧ Below w.heap.size w w' := by
  unfold back_Last.f at h
  obtain ⟨t, A1, h⟩ := Option.bind_eq_some_iff.mp h
  cases t with
  | true =>
    rw [if_pos rfl] at h
    have hq : (match lastF l0 l0.length with | some i => ((i : Int), true) | none => (0, false)) = (r1, r2) ∧ r3 = 0 := by
      cases hl : lastF l0 l0.length with
      | none => rw [hl] at h; have := Prod.mk.inj (Option.some.inj h); have h2 := Prod.mk.inj this.2; exact ⟨by rw [← this.1, ← h2.1], h2.2.symm⟩
      | some i => rw [hl] at h; have := Prod.mk.inj (Option.some.inj h); have h2 := Prod.mk.inj this.2; exact ⟨by rw [← this.1, ← h2.1], h2.2.symm⟩
    obtain ⟨hq, rfl⟩ := hq
    exact (callsIn_wide (n := 4)).1 (back_Last.inW k A0 c0 l0 r1 r2 w hr0 hc0 A1 hq hG)
  | false =>
    rw [if_neg (by decide)] at h
    have hp := Prod.mk.inj (Option.some.inj h)
    have hp2 := Prod.mk.inj hp.2
    obtain rfl : r1 = 0 := hp.1.symm
    obtain rfl : r2 = false := hp2.1.symm
    obtain rfl : r3 = 2400 := hp2.2.symm
    have HR0 := Aside0.mk hr0
    have HC0 := Aside0.mk hc0
    have HA := Aside0.mk A1
    clear hr0 hc0 A1 h hp hp2
    go_enter Tryd.func28, Tryd.ntmps28
    go_wp2_with (first
      | (go_at_call 41; (refine (trail_May.calls k _ _ l0 false _ (Kd.C_below HR0.out (((((Below.refl _ w).alloc (Nat.le_refl _) _).alloc (by simp) _).alloc (by simp; omega) _))) HC0.out HA.out (GOK.below hG (((((Below.refl _ w).alloc (Nat.le_refl _) _).alloc (by simp) _).alloc (by simp; omega) _)))).mono ?_); rintro e w6 ⟨rfl, hb⟩; have hx := bx_three hb; have c0_ := hx.1.cell; have c1_ := hx.2.1.cell; have c2_ := hx.2.2.1.cell; have f0_ := hx.1.frozen; have f1_ := hx.2.1.frozen; have f2_ := hx.2.2.1.frozen; have HX := Aside0.mk hx; clear hx hb))
    clear c0_ c1_ c2_ f0_ f1_ f2_
    obtain ⟨b0, b1, b2, hB, hs⟩ := HX.out
    refine bodyPost_ret (v := .tuple #[.int .i64 0, .bool false, .int .i64 2400]) ?_ rfl ⟨rfl, ?_⟩
    · have e0 := (((b0.set (.int .i64 0)).other (by omega) (.bool false) (B' := w.heap.size + 1)).other (by omega) (.int .i64 2400) (B' := w.heap.size + 1 + 1)).cell
      have e1 := (((b1.other (by omega) (.int .i64 0) (B' := w.heap.size)).set (.bool false)).other (by omega) (.int .i64 2400) (B' := w.heap.size + 1 + 1)).cell
      have e2 := (((b2.other (by omega) (.int .i64 0) (B' := w.heap.size)).other (by omega) (.bool false) (B' := w.heap.size + 1)).set (.int .i64 2400)).cell
      simp only [results, Tryd.f28, go_sem]
      simp [go_sem, e0, e1, e2]
    · exact ((hB.setCell (p := ⟨w.heap.size, 0, none⟩) (Nat.le_refl _) _).setCell (p := ⟨w.heap.size + 1, 0, none⟩) (Nat.le_succ _) _).setCell (p := ⟨w.heap.size + 1 + 1, 0, none⟩) (by show w.heap.size ≤ w.heap.size + 1 + 1; omega) _

end Go.Proofs.YtgcdbpnflchobaaDoor.G
