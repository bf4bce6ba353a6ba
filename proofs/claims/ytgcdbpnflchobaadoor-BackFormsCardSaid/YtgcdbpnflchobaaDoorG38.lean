-- Laid by the session's own driver gp.py over the kit's printer. Not trusted: Lean checks it.
import Derived.Test.YtgcdbpnflchobaaDoorBase
import Derived.Test.YtgcdbpnflchobaaDoorGT
import Derived.Test.YtgcdbpnflchobaaDoorGK
namespace Go.Proofs.YtgcdbpnflchobaaDoor.G
open Go.RowKit Go.Proofs.YtgcdbpnflchobaaDoorW.PrintWords Go.Proofs.YtgcdbpnflchobaaDoorW.PrintLast Go.Proofs.YtgcdbpnflchobaaDoorW.PrintMore
attribute [local go_sem] max2_int min2_int max_two min_two max_three min_three max_four min_four   -- for this text's walks alone
set_option linter.unusedVariables false
set_option linter.unusedSimpArgs false

/-! ### back_Path: function 26, given -/
/-- the way up from a node; n: how many steps at most -/
def upTo' (ns : List S44) : Nat → Int → List Int
  | 0, _ => []
  | n + 1, a => if 0 ≤ a then a :: upTo' ns n (rd_T44 ns a).f1 else []
theorem upTo'_step (ns : List S44) (a : Int) (h : 0 ≤ a) (n : Nat) : upTo' ns (n + 1) a = a :: upTo' ns n (rd_T44 ns a).f1 := by rw [upTo', if_pos h]
theorem upTo'_none (ns : List S44) (a : Int) (h : ¬ 0 ≤ a) : ∀ n, upTo' ns n a = []
  | 0 => rfl
  | n + 1 => by rw [upTo', if_neg h]
theorem upTo'_len (ns : List S44) : ∀ (n : Nat) (a : Int), (upTo' ns n a).length ≤ n
  | 0, _ => Nat.le_refl _
  | n + 1, a => by
    rw [upTo']
    split
    · rw [List.length_cons]; have := upTo'_len ns n (rd_T44 ns a).f1; omega
    · simp
section
attribute [local go_sem] Oper.semAt_some
open Classical in
noncomputable def cellInt (W : World) (B : Nat) : Int := if h : ∃ x : Int, W.cell? ⟨B, 0, none⟩ = some (.int .i64 x) then Classical.choose h else 0
theorem cellInt_eq {W : World} {B : Nat} {x : Int} (h : W.cell? ⟨B, 0, none⟩ = some (.int .i64 x)) : cellInt W B = x := by
  have hex : ∃ x : Int, W.cell? ⟨B, 0, none⟩ = some (.int .i64 x) := ⟨x, h⟩
  unfold cellInt
  rw [dif_pos hex]
  have h2 := h.symm.trans (Classical.choose_spec hex)
  injection Option.some.inj h2 with _ h3
  exact h3.symm
set_option maxRecDepth 100000 in
set_option maxHeartbeats 2000000 in
theorem back_up_1.in_ (n : Nat) (hn : 1 ≤ n) (l Bn Ba n₁ : Nat) (A0 : Option Addr) (c0 : Nat) (l0 : List S44) (a1 : Int) (ha1 : a1 < (l0.length : Int)) (w : World) (hC : Kd.C k44 w A0 l0.length l0)
    (hP : ∀ i : Int, 0 ≤ i → i < (l0.length : Int) → ((0 ≤ (rd_T44 l0 i).f1 ∧ (rd_T44 l0 i).f1 < i) ∨ (i = 0 ∧ (rd_T44 l0 i).f1 = -1)))
    (hn1 : w.heap.size ≤ Ba) (hn2 : w.heap.size ≤ Bn) (hne : Bn ≠ Ba) (hbn : Bn < n₁) (hba : Ba < n₁) (J : List Int → World → Prop) (hJC : ∀ s W v, J s W → J s (W.setCell ⟨Ba, 0, none⟩ v))
    (hY : ∀ pre x W, J pre W → pre.length < l0.length + 1 → YieldAt Fence.wide (n - 1) Tryd.prog l #[.int .i64 x] W fun e W' => e = .returned (.bool true) ∧ J (pre ++ [x]) W' ∧ Below n₁ W W')
    (W : World) (hB : Below w.heap.size w W) (hBn : W.cell? ⟨Bn, 0, none⟩ = some (.slice A0 l0.length c0)) (hBa : W.cell? ⟨Ba, 0, none⟩ = some (.int .i64 a1)) (hfa : W.frozen? ⟨Ba, 0, none⟩ = false) (h0 : J [] W) :
    CallsIn Fence.wide n Tryd.prog 49 #[.func (.yield l) #[] #[], .pointer (some ⟨Ba, 0, none⟩), .pointer (some ⟨Bn, 0, none⟩)] W fun e W' => (∃ v, e = .returned v) ∧ ∃ ys, ys = upTo' l0 (l0.length + 1) a1 ∧ J ys W' := by
  refine callsIn_of_wp Tryd.func49 rfl trivial ?_ rfl
  simp only [Tryd.ntmps49, List.size_toArray, List.length_cons, List.length_nil, Nat.reduceAdd, Nat.reduceSub, Array.replicate_succ, Array.replicate_zero, List.push_toArray, List.append_toArray, List.nil_append, List.cons_append]
  have HS := Aside0.mk (And.intro hBn (And.intro hBa (And.intro hfa h0)))
  clear hBn hBa hfa h0
  gi_wp2
  gi_loopw [4] (fun _ wr => ∃ (pre : List Int) (x : Int) (m : Nat), wr.cell? ⟨Ba, 0, none⟩ = some (.int .i64 x) ∧ wr.frozen? ⟨Ba, 0, none⟩ = false ∧ wr.cell? ⟨Bn, 0, none⟩ = some (.slice A0 l0.length c0) ∧ Aside0 (J pre wr ∧ Below w.heap.size w wr ∧ x < (l0.length : Int) ∧ x < (m : Int) ∧ pre ++ upTo' l0 m x = upTo' l0 (l0.length + 1) a1))
    (fun _ wr => (cellInt wr Ba + 1).toNat)
  case atStart => exact ⟨[], a1, l0.length + 1, HS.out.2.1, HS.out.2.2.1, HS.out.1, ⟨HS.out.2.2.2, hB, ha1, by omega, rfl⟩⟩
  case round =>
    obtain ⟨pre, x, m, hca, hfa, hcn, HJ⟩ := hrel
    by_cases hx : 0 ≤ x
    · obtain ⟨m, rfl⟩ : ∃ m', m = m' + 1 := ⟨m - 1, by have := HJ.out.2.2.2.1; omega⟩
      have hst := upTo'_step l0 x hx m
      have hlen : pre.length < l0.length + 1 := by
        have h1 := congrArg List.length HJ.out.2.2.2.2
        rw [hst, List.length_append, List.length_cons] at h1
        have := upTo'_len l0 (l0.length + 1) a1
        omega
      have hlt : x < (l0.length : Int) := HJ.out.2.2.1
      obtain ⟨ad, A2, c2, e0, g0, g1, g2, g3, hl2, hi2⟩ := at_T44 hC x hx hlt
      cases e0
      clear g0 g2 g3 hl2 hi2
      have hpx := hP x hx hlt
      have HX := Aside0.mk (And.intro hst (And.intro hpx (And.intro g1 hx)))
      have hxb := decide_eq_true hx
      clear hst hpx g1
      replace hlt := eq_true hlt
      replace hx := eq_true hx
      obtain ⟨fn, tmps, assign, body, hy, hR⟩ := hY pre x wr HJ.out.1 hlen
      have HR : RoundIn Fence.wide (n - 1) Tryd.prog l fn tmps assign body wr (fun e W' => e = .returned (.bool true) ∧ (W'.cell? ⟨Ba, 0, none⟩ = some (.int .i64 x) ∧ W'.frozen? ⟨Ba, 0, none⟩ = false ∧ W'.cell? ⟨Bn, 0, none⟩ = some (.slice (some ad) l0.length c0) ∧ W'.cell? ⟨(ad.add (x.toNat * 4)).block, (ad.add (x.toNat * 4)).off + 1, none⟩ = some (.int .i64 (rd_T44 l0 x).f1)) ∧ Aside0 (J (pre ++ [x]) W' ∧ Below w.heap.size w W')) := hR.mono fun e W' hh => by
        obtain ⟨rfl, h1, h2⟩ := hh
        have h3 : Below w.heap.size w W' := HJ.out.2.1.trans (h2.mono (by omega))
        exact ⟨rfl, ⟨(h2.cell (p := ⟨Ba, 0, none⟩) hba).trans hca, (h2.frozen (p := ⟨Ba, 0, none⟩) hba).trans hfa, (h2.cell (p := ⟨Bn, 0, none⟩) hbn).trans hcn, (h3.cell (World.block_lt_of_cell? w _ HX.out.2.2.1)).trans HX.out.2.2.1⟩, ⟨h1, h3⟩⟩
      have HY := Aside0.mk hY
      clear hY hR hC hlen HS
      gi_wp2
      refine HR.mono ?_
      rintro e W3 ⟨rfl, ⟨ha3, hf3, hn3, hp3⟩, HJ3⟩
      have hcx := Aside0.mk (cellInt_eq hca)
      clear hca hfa hcn
      gi_wp2
      have hs3 : (W3.setCell ⟨Ba, 0, none⟩ (Value.int IntKind.i64 (rd_T44 l0 x).f1)).cell? ⟨Ba, 0, none⟩ = some (.int .i64 (rd_T44 l0 x).f1) := World.cell?_setCell_same' _ _ _ (by rw [ha3]; rfl)
      have hq := HX.out.2.1
      have hj := HJ.out
      refine ⟨⟨pre ++ [x], _, m, hs3, by rw [World.frozen?_setCell]; exact hf3, ?_, ⟨hJC _ _ _ HJ3.out.1, HJ3.out.2.setCell (p := ⟨Ba, 0, none⟩) hn1 _, by omega, by omega, by rw [← hj.2.2.2.2, HX.out.1, List.append_assoc]; rfl⟩⟩, ?_⟩
      · exact (grownBy_setCell' W3 Ba _).cell hn3 (fun e => hne (by injection e))
      · rw [cellInt_eq hs3, hcx.out]
        have := HX.out.2.2.2
        omega
    · have hxb := decide_eq_false hx
      have hnn := upTo'_none l0 x hx m
      have HN := Aside0.mk hnn
      clear hnn hx hY hC
      gi_wp2
      refine ⟨fun _ h => (by cases h), ?_⟩
      gi_wp2
      go_end0
      exact ⟨⟨_, rfl⟩, _, by rw [← HJ.out.2.2.2.2, HN.out, List.append_nil], HJ.out.1⟩
end
def back_Path.f (k : Nat) (l0 : List S44) (a1 : Int) : Option (List Int × Int) := (trail_May.f k l0).bind fun t => if t = true ∧ 0 ≤ a1 ∧ a1 < (l0.length : Int) then some (upTo' l0 (l0.length + 1) a1, 0) else some ([], 2400)
theorem back_Path.mono : ∀ a0 a1 k, LeO (back_Path.f k a0 a1) (back_Path.f (k + 1) a0 a1) := by
  intro a0 a1 k
  unfold back_Path.f
  exact LeO.bind (trail_May.mono _ _) (fun _ => LeO.refl _)
theorem back_up.in_ (n : Nat) (hn : 1 ≤ n) (A0 : Option Addr) (len c0 : Nat) (a1 : Int) (w : World) :
    CallsIn Fence.wide n Tryd.prog 42 #[.slice A0 len c0, .int .i64 a1] w fun e w' => e = .returned (.func (.func 49) #[] #[.pointer (some ⟨w.heap.size + 1, 0, none⟩), .pointer (some ⟨w.heap.size, 0, none⟩)]) ∧ w' = (w.alloc (.cells #[.slice A0 len c0] 22)).alloc (.cells #[.int .i64 a1] 3) := by
  refine callsIn_of_wp Tryd.func42 rfl trivial ?_ rfl
  simp only [Tryd.ntmps42, List.size_toArray, List.length_cons, List.length_nil, Nat.reduceAdd, Nat.reduceSub, Array.replicate_succ, Array.replicate_zero, List.push_toArray, List.append_toArray, List.nil_append, List.cons_append]
  gi_wp2
  go_ret
  exact ⟨rfl, rfl⟩
theorem box_two (w : World) (u v : Value) (s t : TypeId) : ((w.alloc (.cells #[u] s)).alloc (.cells #[v] t)).cell? ⟨w.heap.size, 0, none⟩ = some u ∧ ((w.alloc (.cells #[u] s)).alloc (.cells #[v] t)).cell? ⟨w.heap.size + 1, 0, none⟩ = some v ∧ ((w.alloc (.cells #[u] s)).alloc (.cells #[v] t)).frozen? ⟨w.heap.size + 1, 0, none⟩ = false := by
  have h1 := (Boxed.new w s u).alloc (.cells #[v] t)
  have h2 := Boxed.new (w.alloc (.cells #[u] s)) t v
  rw [World.size_alloc] at h2
  exact ⟨h1.cell, h2.cell, h2.frozen⟩
theorem back_up.seqC (n : Nat) (A0 : Option Addr) (c0 : Nat) (l0 : List (S44)) (a1 : Int) (h1 : a1 < (l0.length : Int)) (hP : ∀ i : Int, 0 ≤ i → i < (l0.length : Int) → ((0 ≤ (rd_T44 l0 i).f1 ∧ (rd_T44 l0 i).f1 < i) ∨ (i = 0 ∧ (rd_T44 l0 i).f1 = -1)))
    (w w7 : World) (hC : Kd.C k44 w A0 l0.length l0) (hb7 : Below w.heap.size w w7) (Bn Ba : Nat) (hn1 : w.heap.size ≤ Ba) (hn2 : w.heap.size ≤ Bn) (hne : Bn ≠ Ba) (hbn : Bn < w7.heap.size) (hba : Ba < w7.heap.size)
    (hBn : w7.cell? ⟨Bn, 0, none⟩ = some (.slice A0 l0.length c0)) (hBa : w7.cell? ⟨Ba, 0, none⟩ = some (.int .i64 a1)) (hfa : w7.frozen? ⟨Ba, 0, none⟩ = false) :
    SeqC Fence.wide (n + 1) Tryd.prog 49 #[.pointer (some ⟨Ba, 0, none⟩), .pointer (some ⟨Bn, 0, none⟩)] (Value.int .i64) (fun ys => ys = upTo' l0 (l0.length + 1) a1) (l0.length + 1) w7.heap.size (fun b => b = Ba) w7 := by
  intro l J W hW hJ hJC hY hj0
  exact back_up_1.in_ (n + 1) (Nat.le_add_left _ _) l Bn Ba w7.heap.size A0 c0 l0 a1 h1 w hC hP hn1 hn2 hne hbn hba J (fun s W v hj => hJC s W Ba v rfl hj) hY W (hb7.trans (hW.mono hb7.size))
    ((hW.cell (p := ⟨Bn, 0, none⟩) hbn).trans hBn) ((hW.cell (p := ⟨Ba, 0, none⟩) hba).trans hBa) ((hW.frozen (p := ⟨Ba, 0, none⟩) hba).trans hfa) hj0
set_option maxRecDepth 100000 in
theorem collect_up (A0 : Option Addr) (c0 : Nat) (l0 : List (S44)) (a1 : Int) (h1 : a1 < (l0.length : Int)) (h512 : l0.length ≤ 512) (hP : ∀ i : Int, 0 ≤ i → i < (l0.length : Int) → ((0 ≤ (rd_T44 l0 i).f1 ∧ (rd_T44 l0 i).f1 < i) ∨ (i = 0 ∧ (rd_T44 l0 i).f1 = -1)))
    (w w6 w7 : World) (hC : Kd.C k44 w A0 l0.length l0) (hB : Below w.heap.size w w6)
    (hw7 : w7 = (w6.alloc (.cells #[.slice A0 l0.length c0] 22)).alloc (.cells #[.int .i64 a1] 3)) :
    Calls Tryd.prog 33 #[.func (.func 49) #[] #[.pointer (some ⟨w6.heap.size + 1, 0, none⟩), .pointer (some ⟨w6.heap.size, 0, none⟩)]] w7 fun e w' => ∃ v, e = .returned v ∧ (Kd.int .i64).R 3 w' w.heap.size (fun _ => True) v (upTo' l0 (l0.length + 1) a1) ∧ Below w.heap.size w w' := by
  have hs : w7.heap.size = w6.heap.size + 2 := by rw [hw7]; simp
  have hc := box_two w6 (.slice A0 l0.length c0) (.int .i64 a1) 22 3
  rw [← hw7] at hc
  have hb7 : Below w.heap.size w w7 := by rw [hw7]; exact (hB.alloc hB.size _).alloc (by have := hB.size; simp; omega) _
  have hsz := hB.size
  have hC' : ∀ b, b = w6.heap.size + 1 → w.heap.size ≤ b ∧ b < w7.heap.size := fun b h => by omega
  have hq := fun n => back_up.seqC n A0 c0 l0 a1 h1 hP w w7 hC hb7 w6.heap.size (w6.heap.size + 1) (by omega) (by omega) (by omega) (by omega) (by omega) hc.1 hc.2.1 hc.2.2
  refine (collect_calls 49 _ (enters_of Tryd.func49 (by kernel_rfl) rfl) (upTo' l0 (l0.length + 1) a1) (l0.length + 1) (by omega) w.heap.size (fun b => b = w6.heap.size + 1) w7 (by omega) hC' hq).mono ?_
  rintro e w' ⟨v, rfl, hr, hb⟩
  exact ⟨v, rfl, Kd.R_lower hr (by omega), hb7.trans hb⟩
set_option maxHeartbeats 8000000 in
set_option maxRecDepth 100000 in
theorem back_Path.calls (k : Nat) (A0 : Option Addr) (c0 : Nat) (l0 : List (S44)) (a1 : Int) (r1 : List Int) (r2 : Int) (w : World) (hr0 : Kd.C k44 w A0 l0.length l0) (hc0 : l0.length ≤ c0) (h : back_Path.f k l0 a1 = some (r1, r2)) (hG : GOK w) :
    Calls Tryd.prog 26 #[.slice A0 l0.length c0, .int .i64 a1] w fun e w' => ∃ v0_ : Value, e = .returned (.tuple #[v0_, .int .i64 r2]) ∧ Kd.R (Kd.int .i64) 3 w' w.heap.size (fun _ => True) v0_ r1 ∧ Below w.heap.size w w' := by
  have HR0 := Aside0.mk hr0
  have HC0 := Aside0.mk hc0
  clear hr0 hc0
  have HB := Aside0.mk (Below.refl w.heap.size w)
  unfold back_Path.f at h
  obtain ⟨t, A1, h⟩ := Option.bind_eq_some_iff.mp h
  have HA := Aside0.mk A1
  clear A1
  by_cases c : t = true ∧ 0 ≤ a1 ∧ a1 < (l0.length : Int)
  · rw [if_pos c] at h
    obtain ⟨rfl, c1, c2⟩ := c
    have hp := Prod.mk.inj (Option.some.inj h)
    obtain rfl : r2 = 0 := hp.2.symm
    have HP := Aside0.mk hp.1
    clear h hp
    have hM := trail_May.true_spec HA.out
    have HT := Aside0.mk (And.intro (And.intro c1 c2) hM)
    clear hM
    have c1b : decide (a1 < 0) = false := decide_eq_false (by omega)
    have c2b : decide ((l0.length : Int) ≤ a1) = false := decide_eq_false (by omega)
    clear c1 c2
    go_enter Tryd.func26, Tryd.ntmps26
    go_wp2_with (first
      | (go_at_call 41; (with_reducible refine (trail_May.calls k _ _ l0 true _ HR0.out HC0.out HA.out (by first | exact hG)).mono ?_); rintro e w6 ⟨rfl, hb⟩; have n1_ := Aside0.mk (below_step (by repeat (first | exact HB.out | apply below_alloc | apply pw_below_drewN | apply below_drew1)) hb); clear HB hb; have HB := n1_; clear n1_)
      | (go_at_call 42; (with_reducible refine ((callsIn_wide (n := 1)).1 (back_up.in_ 1 (by omega) _ _ _ _ _)).mono ?_); rintro e w7 ⟨rfl, hw7⟩; have HW := Aside0.mk hw7; clear hw7)
      | (go_at_call 33; (with_reducible refine (collect_up A0 c0 l0 a1 HT.out.1.2 HT.out.2.2.1 HT.out.2.2.2 w _ _ HR0.out HB.out HW.out).mono ?_); rintro e w8 ⟨v8, rfl, hr, hb⟩; have HR8 := Aside0.mk (And.intro hr hb); clear hr hb))
    go_ret2
    exact ⟨_, rfl, by rw [← HP.out]; exact HR8.out.1, HR8.out.2⟩
  · rw [if_neg c] at h
    have hp := Prod.mk.inj (Option.some.inj h)
    obtain rfl : r2 = 2400 := hp.2.symm
    obtain rfl : r1 = [] := hp.1.symm
    clear h hp
    cases t with
    | true =>
      by_cases d : a1 < 0
      · have d1 := decide_eq_true d
        clear d c
        go_enter Tryd.func26, Tryd.ntmps26
        go_wp2_with (first
          | (go_at_call 41; (with_reducible refine (trail_May.calls k _ _ l0 true _ HR0.out HC0.out HA.out (by first | exact hG)).mono ?_); rintro e w6 ⟨rfl, hb⟩; have n1_ := Aside0.mk (below_step (by repeat (first | exact HB.out | apply below_alloc | apply pw_below_drewN | apply below_drew1)) hb); clear HB hb; have HB := n1_; clear n1_))
        go_ret2
        exact ⟨_, rfl, Kd.R_nil _ _ _ _ _, by repeat (first | exact HB.out | apply below_alloc | apply pw_below_drewN | apply below_drew1)⟩
      · have d2 : decide ((l0.length : Int) ≤ a1) = true := decide_eq_true (by
          apply Classical.byContradiction
          intro hh
          exact c ⟨rfl, by omega, by omega⟩)
        have d1 := decide_eq_false d
        clear d c
        go_enter Tryd.func26, Tryd.ntmps26
        go_wp2_with (first
          | (go_at_call 41; (with_reducible refine (trail_May.calls k _ _ l0 true _ HR0.out HC0.out HA.out (by first | exact hG)).mono ?_); rintro e w6 ⟨rfl, hb⟩; have n1_ := Aside0.mk (below_step (by repeat (first | exact HB.out | apply below_alloc | apply pw_below_drewN | apply below_drew1)) hb); clear HB hb; have HB := n1_; clear n1_))
        go_ret2
        exact ⟨_, rfl, Kd.R_nil _ _ _ _ _, by repeat (first | exact HB.out | apply below_alloc | apply pw_below_drewN | apply below_drew1)⟩
    | false =>
      clear c
      go_enter Tryd.func26, Tryd.ntmps26
      go_wp2_with (first
        | (go_at_call 41; (with_reducible refine (trail_May.calls k _ _ l0 false _ HR0.out HC0.out HA.out (by first | exact hG)).mono ?_); rintro e w6 ⟨rfl, hb⟩; have n1_ := Aside0.mk (below_step (by repeat (first | exact HB.out | apply below_alloc | apply pw_below_drewN | apply below_drew1)) hb); clear HB hb; have HB := n1_; clear n1_))
      go_ret2
      exact ⟨_, rfl, Kd.R_nil _ _ _ _ _, by repeat (first | exact HB.out | apply below_alloc | apply pw_below_drewN | apply below_drew1)⟩

end Go.Proofs.YtgcdbpnflchobaaDoor.G
