/- Parts of this proof, one behind the other: G17, G18, G19, G20, G21. -/
import Derived.Test.YtjodjfbhaojhjaaDoorG0
import Derived.Test.YtjodjfbhaojhjaaDoorU6
section
namespace Go.Proofs.YtjodjfbhaojhjaaDoor.G
open Go.RowKit Go.Proofs.YtjodjfbhaojhjaaDoorW.PrintWords Go.Proofs.YtjodjfbhaojhjaaDoorW.PrintLast Go.Proofs.YtjodjfbhaojhjaaDoorW.PrintMore
attribute [local go_sem] max2_int min2_int max_two min_two max_three min_three max_four min_four
set_option linter.unusedVariables false
set_option linter.unusedSimpArgs false
/-- a node's kids among those ahead of place i -/
def kidsTo (ns : List S35) (a : Int) : Nat → List Int
  | 0 => []
  | i + 1 => if a < (i : Int) ∧ (rd_T35 ns (i : Int)).f1 = a then kidsTo ns a i ++ [(i : Int)] else kidsTo ns a i
theorem kidsTo_pre (ns : List S35) (a : Int) : ∀ {i j : Nat}, i ≤ j → kidsTo ns a i <+: kidsTo ns a j := by
  intro i j h
  induction h with
  | refl => exact List.prefix_refl _
  | step _ ih =>
    rw [kidsTo]
    split
    · exact ih.trans (List.prefix_append _ _)
    · exact ih
theorem kidsTo_none (ns : List S35) (a : Int) : ∀ (i : Nat), (i : Int) ≤ a + 1 → kidsTo ns a i = []
  | 0, _ => rfl
  | i + 1, h => by rw [kidsTo, if_neg (by omega), kidsTo_none ns a i (by omega)]
theorem kidsTo_len (ns : List S35) (a : Int) : ∀ (i : Nat), (kidsTo ns a i).length ≤ i
  | 0 => Nat.le_refl _
  | i + 1 => by
    have := kidsTo_len ns a i
    rw [kidsTo]
    split <;> simp <;> omega

section
attribute [local go_sem] Oper.semAt_some
set_option maxRecDepth 100000 in
set_option maxHeartbeats 2000000 in
theorem tree_Below_1.in_ (n : Nat) (hn : 1 ≤ n) (l Bn Ba n₁ N : Nat) (A0 : Option Addr) (c0 : Nat) (l0 : List S35) (a1 : Int) (ha0 : 0 ≤ a1) (ha1 : a1 < (l0.length : Int)) (hlen : l0.length ≤ 9223372036854775806) (w : World) (hC : Kd.C k35 w A0 l0.length l0)
    (hN : ∀ i, i < l0.length → (kidsTo l0 a1 i).length < N) (J Jx : List Int → World → Prop) (hJd : ∀ s W n, J s W → J s (W.drewN n))
    (hY : ∀ pre x W, J pre W → pre.length < N → (0 ≤ x ∧ x < (l0.length : Int)) → YieldAt Fence.wide (n - 1) Tryd.prog l #[.int .i64 x] W fun e W' =>
      (e = .returned (.bool true) ∧ J (pre ++ [x]) W' ∧ Below n₁ W W') ∨ (e = .returned (.bool false) ∧ Jx (pre ++ [x]) W'))
    (W : World) (hB : Below w.heap.size w W) (hw : w.heap.size ≤ n₁) (hBn : W.cell? ⟨Bn, 0, none⟩ = some (.slice A0 l0.length c0)) (hBa : W.cell? ⟨Ba, 0, none⟩ = some (.int .i64 a1)) (hbn : Bn < n₁) (hba : Ba < n₁) (h0 : J [] W) :
    CallsIn Fence.wide n Tryd.prog 20 #[.func (.yield l) #[] #[], .pointer (some ⟨Ba, 0, none⟩), .pointer (some ⟨Bn, 0, none⟩)] W fun e W' => (∃ v, e = .returned v) ∧
      ((∃ ys, ys = kidsTo l0 a1 l0.length ∧ J ys W') ∨ (∃ pre, pre <+: kidsTo l0 a1 l0.length ∧ Jx pre W')) := by
  refine callsIn_of_wp Tryd.func20 rfl trivial ?_ rfl
  simp only [Tryd.ntmps20, List.size_toArray, List.length_cons, List.length_nil, Nat.reduceAdd, Nat.reduceSub, Array.replicate_succ, Array.replicate_zero, List.push_toArray, List.append_toArray, List.nil_append, List.cons_append]
  gi_wp2
  gi_loopw [4] (fun i wr => ∃ x : Int, i = .int .i64 x ∧ Aside0 (a1 < x ∧ x ≤ (l0.length : Int)) ∧ Aside0 (J (kidsTo l0 a1 x.toNat) wr ∧ Below n₁ W wr))
    (fun i _ => l0.length - (intOf i).toNat)
  case atStart => exact ⟨a1 + 1, by first | rfl | (congr 1; omega) | (simp; omega), ⟨by omega, by omega⟩, ⟨by rw [kidsTo_none _ _ _ (by omega)]; exact h0, Below.refl _ _⟩⟩
  case round =>
    obtain ⟨x, rfl, HX, HJ⟩ := hrel
    have hcn := (HJ.out.2.cell (p := ⟨Bn, 0, none⟩) hbn).trans hBn
    have hca := (HJ.out.2.cell (p := ⟨Ba, 0, none⟩) hba).trans hBa
    by_cases hlt : x < (l0.length : Int)
    case neg =>
      have hltb := decide_eq_false hlt
      have hxl : x.toNat = l0.length := by have := HX.out; omega
      have HX2 := Aside0.mk hxl
      clear hxl hlt
      gi_wp2
      go_end0
      exact ⟨⟨_, rfl⟩, .inl ⟨_, rfl, by rw [← HX2.out]; exact HJ.out.1⟩⟩
    have hx0 : 0 ≤ x := by have := HX.out; omega
    obtain ⟨ad, A2, c2, e0, g0, g1, g2, g3, hl2, hi2⟩ := at_T35 hC x hx0 hlt
    cases e0
    have hbw : Below w.heap.size w wr := hB.trans (HJ.out.2.mono hw)
    have hp := (hbw.cell (World.block_lt_of_cell? w _ g1)).trans g1
    clear g0 g1 g2 g3 hl2 hi2
    have hxt : (x + 1).toNat = x.toNat + 1 := by omega
    have hxe : ((x.toNat : Nat) : Int) = x := by omega
    have hw1 : IntKind.i64.wrap (x + 1) = x + 1 := IntWalk.i64_in _ (by omega)
    have hw2 := Aside0.mk hw1
    clear hw1
    have hlt0 := Aside0.mk (And.intro hlt (And.intro hxt hxe))
    clear hxt hxe
    have hltb := decide_eq_true hlt
    replace hlt := eq_true hlt
    replace hx0 := eq_true hx0
    have hmix : Tryd.prog.follows .mixedOrders = true := by kernel_rfl
    by_cases hpar : (rd_T35 l0 x).f1 = a1
    case neg =>
      have hparb : ((rd_T35 l0 x).f1 == a1) = false := beq_eq_false_iff_ne.2 hpar
      have hkid : kidsTo l0 a1 (x.toNat + 1) = kidsTo l0 a1 x.toNat := by rw [kidsTo, hlt0.out.2.2, if_neg (fun h => hpar h.2)]
      have HK := Aside0.mk hkid
      clear hkid hpar
      have HY := Aside0.mk (And.intro hY hJd)
      clear hY hJd
      clear hN hBa hBn hC h0
      gi_wp2
      refine wpIn_mono (Q := fun e a w' => e = .normal ∧ ∃ (t7 t8 t9 t10 t11 t12 t13 t14 t15 t16 t17 t18 t19 t20 t21 t22 t23 t24 : Value), a = { tmps := #[.func (.yield l) #[] #[], .pointer (some ⟨Ba, 0, none⟩), .pointer (some ⟨Bn, 0, none⟩), undef, .int .i64 x, .int .i64 a1, .int .i64 (a1 + 1), t7, t8, t9, t10, t11, t12, t13, t14, t15, t16, t17, t18, t19, t20, t21, t22, t23, t24, .bool false], defers := [] } ∧ ∃ nq, w' = wr.drewN nq) ?reg ?post
      case reg =>
        clear HY HK HX HJ hlt0 hw2 hbw hB hw
        refine wpIn_region_quiet_lit rfl hmix (by kernel_rfl) ?_
        iterate 10 (quiet_step_in (fail))
        refine BigFrame.wpQuietIn_skip (fun _ _ _ _ => trivial) (by first | rfl | kernel_rfl | simp [Region.wanted, yielded]) ?_
        simp only [Act.put, List.setIfInBounds_toArray, List.set_cons_succ, List.set_cons_zero]
        iterate 2 (quiet_step_in (fail))
        refine wpQuietIn_nil ?_
        intro _ hw'
        obtain ⟨nq, hw''⟩ := hw'
        subst hw''
        exact ⟨trivial, _, _, _, _, _, _, _, _, _, _, _, _, _, _, _, _, _, _, rfl, _, rfl⟩
      case post =>
        rintro e a W3 ⟨rfl, t7, t8, t9, t10, t11, t12, t13, t14, t15, t16, t17, t18, t19, t20, t21, t22, t23, t24, rfl, nq, rfl⟩
        clear hparb hp
        gi_wp2
        refine ⟨⟨x + 1, by rw [show wrap64 (x + 1) = x + 1 from by have := HX.out; have := hlt0.out.1; unfold wrap64; omega], ⟨by have := HX.out; omega, by have := hlt0.out.1; omega⟩, ⟨by rw [hlt0.out.2.1, HK.out]; exact HY.out.2 _ _ nq HJ.out.1, below_dn HJ.out.2 nq⟩⟩, ?_⟩
        rw [show wrap64 (x + 1) = x + 1 from by have := HX.out; have := hlt0.out.1; unfold wrap64; omega]
        have := HX.out
        have := hlt0.out.1
        simp only [intOf]
        omega
    have hparb : ((rd_T35 l0 x).f1 == a1) = true := beq_iff_eq.2 hpar
    have hkid : kidsTo l0 a1 (x.toNat + 1) = kidsTo l0 a1 x.toNat ++ [x] := by rw [kidsTo, hlt0.out.2.2, if_pos ⟨HX.out.1, hpar⟩]
    have HK := Aside0.mk hkid
    clear hkid hpar
    have HY := Aside0.mk (fun nq => hY _ x (wr.drewN nq) (hJd _ _ nq HJ.out.1) (hN x.toNat (by have := hlt0.out.1; omega)) ⟨by have := HX.out; omega, hlt0.out.1⟩)
    clear hY hJd hN hBa hBn hC h0
    gi_wp2
    refine wpIn_mono (Q := fun e a w' => e = .normal ∧ ∃ (b : Bool) (t7 t8 t9 t10 t11 t12 t13 t14 t15 t16 t17 t18 t19 t20 t21 t22 t23 t24 : Value), a = { tmps := #[.func (.yield l) #[] #[], .pointer (some ⟨Ba, 0, none⟩), .pointer (some ⟨Bn, 0, none⟩), undef, .int .i64 x, .int .i64 a1, .int .i64 (a1 + 1), t7, t8, t9, t10, t11, t12, t13, t14, t15, t16, t17, t18, t19, t20, t21, t22, t23, t24, .bool (!b)], defers := [] } ∧ Aside0 ((b = true ∧ J (kidsTo l0 a1 x.toNat ++ [x]) w' ∧ Below n₁ wr w') ∨ (b = false ∧ Jx (kidsTo l0 a1 x.toNat ++ [x]) w'))) ?reg ?post
    case reg =>
      clear HK HX HJ hlt0 hw2 hbw hB hw
      refine wpIn_region_head 10 rfl hmix (by kernel_rfl) ?_
      simp only [List.take_succ_cons, List.take_zero, List.drop_succ_cons, List.drop_zero]
      iterate 10 (quiet_step_in (fail))
      refine wpQuietIn_nil ?_
      intro _ hw'
      obtain ⟨nq, hw''⟩ := hw'
      subst hw''
      obtain ⟨fn, tmps, assign, body, hy, hR⟩ := HY.out nq
      clear HY
      have HR : RoundIn Fence.wide (n - 1) Tryd.prog l fn tmps assign body (wr.drewN nq) (fun e W' => ∃ b, e = .returned (.bool b) ∧ Aside0 ((b = true ∧ J (kidsTo l0 a1 x.toNat ++ [x]) W' ∧ Below n₁ wr W') ∨ (b = false ∧ Jx (kidsTo l0 a1 x.toNat ++ [x]) W'))) := hR.mono fun e W' hh => by
        rcases hh with ⟨rfl, h1, h2⟩ | ⟨rfl, h1⟩
        · exact ⟨true, rfl, ⟨.inl ⟨rfl, h1, (below_dn (Below.refl _ _) nq).trans h2⟩⟩⟩
        · exact ⟨false, rfl, ⟨.inr ⟨rfl, h1⟩⟩⟩
      clear hR
      gi_wp2
      refine HR.mono ?_
      rintro e W3 ⟨b, rfl, HQ⟩
      gi_wp2
    case post =>
      rintro e a W3 ⟨rfl, b, t7, t8, t9, t10, t11, t12, t13, t14, t15, t16, t17, t18, t19, t20, t21, t22, t23, t24, rfl, HQ⟩
      clear HY hparb hp
      cases b
      · gi_wp2
        refine bodyPost_ret (results_none rfl _ _ _) rfl ?_
        have hq := HQ.out
        simp only [Bool.false_eq_true, false_and, false_or, true_and] at hq
        exact ⟨⟨_, rfl⟩, .inr ⟨_, by rw [← HK.out]; exact kidsTo_pre _ _ (by have := hlt0.out.1; omega), hq⟩⟩
      · have hq := HQ.out
        simp only [Bool.true_eq_false, false_and, or_false, true_and] at hq
        have HQ2 := Aside0.mk hq
        clear hq HQ
        gi_wp2
        refine ⟨⟨x + 1, by rw [show wrap64 (x + 1) = x + 1 from by have := HX.out; have := hlt0.out.1; unfold wrap64; omega], ⟨by have := HX.out; omega, by have := hlt0.out.1; omega⟩, ⟨by rw [hlt0.out.2.1, HK.out]; exact HQ2.out.1, HJ.out.2.trans HQ2.out.2⟩⟩, ?_⟩
        rw [show wrap64 (x + 1) = x + 1 from by have := HX.out; have := hlt0.out.1; unfold wrap64; omega]
        have := HX.out
        have := hlt0.out.1
        simp only [intOf]
        omega
/-- tree.Below: two boxes, a function value -/
theorem tree_Below.in_ (n : Nat) (hn : 1 ≤ n) (A0 : Option Addr) (len c0 : Nat) (a1 : Int) (w : World) :
    CallsIn Fence.wide n Tryd.prog 16 #[.slice A0 len c0, .int .i64 a1] w fun e w' => e = .returned (.func (.func 20) #[] #[.pointer (some ⟨w.heap.size + 1, 0, none⟩), .pointer (some ⟨w.heap.size, 0, none⟩)]) ∧ w' = (w.alloc (.cells #[.slice A0 len c0] 22)).alloc (.cells #[.int .i64 a1] 3) := by
  refine callsIn_of_wp Tryd.func16 rfl trivial ?_ rfl
  simp only [Tryd.ntmps16, List.size_toArray, List.length_cons, List.length_nil, Nat.reduceAdd, Nat.reduceSub, Array.replicate_succ, Array.replicate_zero, List.push_toArray, List.append_toArray, List.nil_append, List.cons_append]
  gi_wp2
  go_ret
  exact ⟨rfl, rfl⟩
theorem tree_Below.stops (n : Nat) (hn : 1 ≤ n) (A0 : Option Addr) (c0 : Nat) (l0 : List S35) (a1 : Int) (ha0 : 0 ≤ a1) (ha1 : a1 < (l0.length : Int)) (hlen : l0.length ≤ 9223372036854775806) (w : World) (hC : Kd.C k35 w A0 l0.length l0) (Bn Ba n₁ : Nat) (hn₁ : n₁ ≤ w.heap.size) (hbn : Bn < n₁) (hba : Ba < n₁)
    (hBn : w.cell? ⟨Bn, 0, none⟩ = some (.slice A0 l0.length c0)) (hBa : w.cell? ⟨Ba, 0, none⟩ = some (.int .i64 a1)) (w0 : World) (hw0 : Below w0.heap.size w0 w) (hC0 : Kd.C k35 w0 A0 l0.length l0) (hn0 : w0.heap.size ≤ n₁) :
    SeqStopsK Fence.wide n Tryd.prog 20 #[.pointer (some ⟨Ba, 0, none⟩), .pointer (some ⟨Bn, 0, none⟩)] (fun x : Int => #[Value.int .i64 x]) (Below n₁) (fun ys => ys = kidsTo l0 a1 l0.length) (fun pre => pre <+: kidsTo l0 a1 l0.length) l0.length w := fun l J Jx W hW hJ hJx hY h0 =>
  tree_Below_1.in_ n hn l Bn Ba n₁ l0.length A0 c0 l0 a1 ha0 ha1 hlen w0 hC0 (fun i hi => Nat.lt_of_le_of_lt (kidsTo_len l0 a1 i) hi) J Jx
    (fun s W1 m h => hJ s W1 (W1.drewN m) none h ⟨rfl, rfl, rfl, Nat.le_refl _, fun _ _ _ => rfl⟩ (fun r e => by cases e)) (fun pre x W1 h1 h2 _ => hY pre x W1 h1 h2) W (hw0.trans (hW.mono hw0.size)) hn0 ((hW.cell (p := ⟨Bn, 0, none⟩) (by show Bn < w.heap.size; omega)).trans hBn) ((hW.cell (p := ⟨Ba, 0, none⟩) (by show Ba < w.heap.size; omega)).trans hBa) hbn hba h0
/-- the same of places that are places: a body may look there -/
theorem tree_Below.stopsF (n : Nat) (hn : 1 ≤ n) (A0 : Option Addr) (c0 : Nat) (l0 : List S35) (a1 : Int) (ha0 : 0 ≤ a1) (ha1 : a1 < (l0.length : Int)) (hlen : l0.length ≤ 9223372036854775806) (w : World) (hC : Kd.C k35 w A0 l0.length l0) (Bn Ba n₁ : Nat) (hn₁ : n₁ ≤ w.heap.size) (hbn : Bn < n₁) (hba : Ba < n₁)
    (hBn : w.cell? ⟨Bn, 0, none⟩ = some (.slice A0 l0.length c0)) (hBa : w.cell? ⟨Ba, 0, none⟩ = some (.int .i64 a1)) (w0 : World) (hw0 : Below w0.heap.size w0 w) (hC0 : Kd.C k35 w0 A0 l0.length l0) (hn0 : w0.heap.size ≤ n₁) :
    SeqStopsK Fence.wide n Tryd.prog 20 #[.pointer (some ⟨Ba, 0, none⟩), .pointer (some ⟨Bn, 0, none⟩)] (fun x : {x : Int // 0 ≤ x ∧ x < (l0.length : Int)} => #[Value.int .i64 x.1]) (Below n₁) (fun ys => ys.map (·.1) = kidsTo l0 a1 l0.length) (fun pre => pre.map (·.1) <+: kidsTo l0 a1 l0.length) l0.length w := fun l J Jx W hW hJ hJx hY h0 => by
  refine (tree_Below_1.in_ n hn l Bn Ba n₁ l0.length A0 c0 l0 a1 ha0 ha1 hlen w0 hC0 (fun i hi => Nat.lt_of_le_of_lt (kidsTo_len l0 a1 i) hi) (fun ys W1 => ∃ zs : List {x : Int // 0 ≤ x ∧ x < (l0.length : Int)}, zs.map (·.1) = ys ∧ J zs W1) (fun ys W1 => ∃ zs : List {x : Int // 0 ≤ x ∧ x < (l0.length : Int)}, zs.map (·.1) = ys ∧ Jx zs W1)
    ?_ ?_ W (hw0.trans (hW.mono hw0.size)) hn0 ((hW.cell (p := ⟨Bn, 0, none⟩) (by show Bn < w.heap.size; omega)).trans hBn) ((hW.cell (p := ⟨Ba, 0, none⟩) (by show Ba < w.heap.size; omega)).trans hBa) hbn hba ⟨[], rfl, h0⟩).mono ?_
  · rintro s W1 m ⟨zs, e, h⟩
    exact ⟨zs, e, hJ zs W1 (W1.drewN m) none h ⟨rfl, rfl, rfl, Nat.le_refl _, fun _ _ _ => rfl⟩ (fun r e => by cases e)⟩
  · rintro pre x W1 ⟨zs, e, h⟩ hl hx
    refine (hY zs ⟨x, hx⟩ W1 h (by rw [← e, List.length_map] at hl; exact hl)).mono ?_
    rintro e' W2 (⟨h1, h2, h3⟩ | ⟨h1, h2⟩)
    · exact .inl ⟨h1, ⟨_, by rw [List.map_append, e]; rfl, h2⟩, h3⟩
    · exact .inr ⟨h1, ⟨_, by rw [List.map_append, e]; rfl, h2⟩⟩
  · rintro e' W2 ⟨hv, ⟨ys, hy, zs, e, h⟩ | ⟨pre, hp, zs, e, h⟩⟩
    · exact ⟨hv, .inl ⟨zs, e.trans hy, h⟩⟩
    · exact ⟨hv, .inr ⟨zs, (show zs.map (fun x => x.1) <+: kidsTo l0 a1 l0.length by rw [e]; exact hp), h⟩⟩
end

def tree_Kids.f (k : Nat) (l0 : List S35) (a1 : Int) : Option (List Int × Int) := (tree_there.f k l0 a1).bind fun t => if t = true then some (kidsTo l0 a1 l0.length, 0) else some ([], 1300)
theorem tree_there.true_spec {k : Nat} {l0 : List S35} {a1 : Int} (h : tree_there.f k l0 a1 = some true) : trail_May.f k l0 = some true ∧ 0 ≤ a1 ∧ a1 < (l0.length : Int) := by
  unfold tree_there.f at h
  obtain ⟨t, h1, h⟩ := Option.bind_eq_some_iff.mp h
  cases t with
  | false => simp at h
  | true =>
    rw [if_pos rfl] at h
    by_cases c : a1 ≥ 0
    case neg =>
      rw [if_neg c] at h; simp at h
    rw [if_pos c] at h
    exact ⟨h1, c, of_decide_eq_true (Option.some.inj h)⟩
theorem cell_two (w : World) (u v : Value) (s t : TypeId) : ((w.alloc (.cells #[u] s)).alloc (.cells #[v] t)).cell? ⟨w.heap.size, 0, none⟩ = some u ∧ ((w.alloc (.cells #[u] s)).alloc (.cells #[v] t)).cell? ⟨w.heap.size + 1, 0, none⟩ = some v := by
  have h1 := (Boxed.new w s u).alloc (.cells #[v] t)
  have h2 := Boxed.new (w.alloc (.cells #[u] s)) t v
  rw [World.size_alloc] at h2
  exact ⟨h1.cell, h2.cell⟩
theorem collect_below (A0 : Option Addr) (c0 : Nat) (l0 : List (S35)) (a1 : Int) (h0 : 0 ≤ a1) (h1 : a1 < (l0.length : Int)) (h512 : l0.length ≤ 512) (w w6 w7 : World) (hC : Kd.C k35 w A0 l0.length l0) (hB : Below w.heap.size w w6)
    (hw7 : w7 = (w6.alloc (.cells #[.slice A0 l0.length c0] 22)).alloc (.cells #[.int .i64 a1] 3)) :
    Calls Tryd.prog 15 #[.func (.func 20) #[] #[.pointer (some ⟨w6.heap.size + 1, 0, none⟩), .pointer (some ⟨w6.heap.size, 0, none⟩)]] w7 fun e w' => ∃ v, e = .returned v ∧ (Kd.int .i64).R 3 w' w.heap.size (fun _ => True) v (kidsTo l0 a1 l0.length) ∧ Below w.heap.size w w' := by
  have hs : w7.heap.size = w6.heap.size + 2 := by rw [hw7]; simp
  have hc := cell_two w6 (.slice A0 l0.length c0) (.int .i64 a1) 22 3
  rw [← hw7] at hc
  have hb7 : Below w.heap.size w w7 := by rw [hw7]; exact (hB.alloc hB.size _).alloc (by have := hB.size; simp; omega) _
  have hsz := hB.size
  refine (collect_calls 20 _ (enters_of Tryd.func20 (by kernel_rfl) rfl) (kidsTo l0 a1 l0.length) l0.length (by omega) w7.heap.size (fun _ => False) w7 (Nat.le_refl _) (fun _ h => h.elim)
    (fun n => SeqC.of_stops (tree_Below.stops (n + 1) (by omega) A0 c0 l0 a1 h0 h1 (by omega) w7 (Kd.C_below hC hb7) w6.heap.size (w6.heap.size + 1) w7.heap.size (Nat.le_refl _) (by omega) (by omega) hc.1 hc.2 w hb7 hC (by omega)))).mono ?_
  rintro e w' ⟨v, rfl, hr, hb⟩
  exact ⟨v, rfl, Kd.R_lower hr (by omega), hb7.trans (hb.mono (by omega))⟩
set_option maxHeartbeats 8000000 in
set_option maxRecDepth 100000 in
theorem tree_Kids.calls (k : Nat) (A0 : Option Addr) (c0 : Nat) (l0 : List (S35)) (a1 : Int) (r1 : List Int) (r2 : Int) (w : World) (hr0 : Kd.C k35 w A0 l0.length l0) (hc0 : l0.length ≤ c0) (h : tree_Kids.f k l0 a1 = some (r1, r2)) (hG : GOK w) :
    Calls Tryd.prog 7 #[.slice A0 l0.length c0, .int .i64 a1] w fun e w' => ∃ v0_ : Value, e = .returned (.tuple #[v0_, .int .i64 r2]) ∧ Kd.R (Kd.int .i64) 3 w' w.heap.size (fun _ => True) v0_ r1 ∧ Below w.heap.size w w' := by
  have HR0 := Aside0.mk hr0
  have HC0 := Aside0.mk hc0
  clear hr0 hc0
  have HB := Aside0.mk (Below.refl w.heap.size w)
  unfold tree_Kids.f at h
  obtain ⟨t, A1, h⟩ := Option.bind_eq_some_iff.mp h
  have HA := Aside0.mk A1
  clear A1
  cases t with
  | true =>
    rw [if_pos rfl] at h
    have hp := Prod.mk.inj (Option.some.inj h)
    obtain rfl : r2 = 0 := hp.2.symm
    have HP := Aside0.mk hp.1
    clear h hp
    have hT := tree_there.true_spec HA.out
    have hM := trail_May.true_spec hT.1
    have HT := Aside0.mk (And.intro hT hM)
    clear hT hM
    go_enter Tryd.func7, Tryd.ntmps7
    go_wp2_with (first
      | (go_at_call 12; (with_reducible refine (tree_there.calls k _ _ l0 a1 true _ HR0.out HC0.out HA.out (by first | exact hG)).mono ?_); rintro e w6 ⟨rfl, hb⟩; have n1_ := Aside0.mk (below_step (by repeat (first | exact HB.out | apply below_alloc | apply pw_below_drewN | apply below_drew1)) hb); clear HB hb; have HB := n1_; clear n1_)
      | (go_at_call 16; (with_reducible refine ((callsIn_wide (n := 1)).1 (tree_Below.in_ 1 (by omega) _ _ _ _ _)).mono ?_); rintro e w7 ⟨rfl, hw7⟩; have HW := Aside0.mk hw7; clear hw7)
      | (go_at_call 15; (with_reducible refine (collect_below A0 c0 l0 a1 HT.out.1.2.1 HT.out.1.2.2 HT.out.2.2.1 w _ _ HR0.out HB.out HW.out).mono ?_); rintro e w8 ⟨v8, rfl, hr, hb⟩; have HR8 := Aside0.mk (And.intro hr hb); clear hr hb))
    go_ret2
    exact ⟨_, rfl, by rw [← HP.out]; exact HR8.out.1, HR8.out.2⟩
  | false =>
    rw [if_neg (by decide)] at h
    have hp := Prod.mk.inj (Option.some.inj h)
    obtain rfl : r2 = 1300 := hp.2.symm
    obtain rfl : r1 = [] := hp.1.symm
    clear h hp
    go_enter Tryd.func7, Tryd.ntmps7
    go_wp2_with (first
      | (go_at_call 12; (with_reducible refine (tree_there.calls k _ _ l0 a1 false _ HR0.out HC0.out HA.out (by first | exact hG)).mono ?_); rintro e w6 ⟨rfl, hb⟩; have n1_ := Aside0.mk (below_step (by repeat (first | exact HB.out | apply below_alloc | apply pw_below_drewN | apply below_drew1)) hb); clear HB hb; have HB := n1_; clear n1_))
    go_ret2
    exact ⟨_, rfl, Kd.R_nil _ _ _ _ _, by repeat (first | exact HB.out | apply below_alloc | apply pw_below_drewN | apply below_drew1)⟩

def sleuthlaw0_Num.f (a0 : Int) : Option (Int) := some a0
set_option maxHeartbeats 8000000 in
set_option maxRecDepth 100000 in
theorem sleuthlaw0_Num.calls (a0 : Int) (r : Int) (w : World) (h : sleuthlaw0_Num.f a0 = some r) :
    Calls Tryd.prog 8 #[.int .i64 a0] w fun e w' => e = .returned (.int .i64 r) ∧ Drawn0 w w' := by
  have H : (some a0) = some r := h
  clear h
  obtain rfl := Option.some.inj H
  go_enter Tryd.func8, Tryd.ntmps8
  go_wp2
  go_ret
  exact ⟨by first | rfl | (simp; done) | (simp [*]; done), by repeat (first | exact Drawn0.refl _ | apply Drawn0.step)⟩

def sleuthlaw13_some.f  : Option ((List (S35))) := some (([(⟨0, (-1), ([] : List ByteArray), (⟨#[57]⟩ : ByteArray)⟩ : S35), (⟨1, 0, (([(⟨#[64, 55, 40, 95, 32, 52, 41]⟩ : ByteArray), (⟨#[53]⟩ : ByteArray)] : List ByteArray)), (⟨#[57]⟩ : ByteArray)⟩ : S35), (⟨2, 0, ([] : List ByteArray), (⟨#[33]⟩ : ByteArray)⟩ : S35), (⟨1, 1, (([(⟨#[49]⟩ : ByteArray), (⟨#[95]⟩ : ByteArray)] : List ByteArray)), (⟨#[95]⟩ : ByteArray)⟩ : S35), (⟨1, 2, (([(⟨#[49]⟩ : ByteArray), (⟨#[95]⟩ : ByteArray)] : List ByteArray)), (⟨#[95]⟩ : ByteArray)⟩ : S35)] : List (S35)))
set_option maxHeartbeats 8000000 in
set_option maxRecDepth 100000 in
theorem sleuthlaw13_some.calls  (r : List (S35)) (w : World) (h : sleuthlaw13_some.f  = some r) :
    Calls Tryd.prog 10 #[] w fun e w' => ∃ v0_ : Value, e = .returned (v0_) ∧ Kd.N k35 35 w' w.heap.size (fun k_ => (w.heap.size ≤ k_)) v0_ r ∧ Below w.heap.size w w' := by
  have hu35 := Tryd.underlying35
  have HB := Aside0.mk (Below.refl w.heap.size w)
  have H : (some (([(⟨0, (-1), ([] : List ByteArray), (⟨#[57]⟩ : ByteArray)⟩ : S35), (⟨1, 0, (([(⟨#[64, 55, 40, 95, 32, 52, 41]⟩ : ByteArray), (⟨#[53]⟩ : ByteArray)] : List ByteArray)), (⟨#[57]⟩ : ByteArray)⟩ : S35), (⟨2, 0, ([] : List ByteArray), (⟨#[33]⟩ : ByteArray)⟩ : S35), (⟨1, 1, (([(⟨#[49]⟩ : ByteArray), (⟨#[95]⟩ : ByteArray)] : List ByteArray)), (⟨#[95]⟩ : ByteArray)⟩ : S35), (⟨1, 2, (([(⟨#[49]⟩ : ByteArray), (⟨#[95]⟩ : ByteArray)] : List ByteArray)), (⟨#[95]⟩ : ByteArray)⟩ : S35)] : List (S35)))) = some r := h
  clear h
  obtain ⟨y0, i0⟩ : ∃ y_ : List ByteArray, y_ = (([(⟨#[64, 55, 40, 95, 32, 52, 41]⟩ : ByteArray), (⟨#[53]⟩ : ByteArray)] : List ByteArray)) := ⟨_, rfl⟩
  replace H : (some (([(⟨0, (-1), ([] : List ByteArray), (⟨#[57]⟩ : ByteArray)⟩ : S35), (⟨1, 0, y0, (⟨#[57]⟩ : ByteArray)⟩ : S35), (⟨2, 0, ([] : List ByteArray), (⟨#[33]⟩ : ByteArray)⟩ : S35), (⟨1, 1, (([(⟨#[49]⟩ : ByteArray), (⟨#[95]⟩ : ByteArray)] : List ByteArray)), (⟨#[95]⟩ : ByteArray)⟩ : S35), (⟨1, 2, (([(⟨#[49]⟩ : ByteArray), (⟨#[95]⟩ : ByteArray)] : List ByteArray)), (⟨#[95]⟩ : ByteArray)⟩ : S35)] : List (S35)))) = some r := by first | (rw [i0]; with_reducible exact H) | (have H2_ := (Option.bind_some _ _).symm.trans H; rw [i0]; with_reducible exact H2_) | (have H2_ := (Option.bind_some _ _).symm.trans H; with_reducible exact H2_) | with_reducible exact H | (rw [i0]; exact H) | exact H
  have Y0 := Aside0.mk i0
  clear i0
  obtain ⟨y1, i1⟩ : ∃ y_ : List ByteArray, y_ = (([(⟨#[49]⟩ : ByteArray), (⟨#[95]⟩ : ByteArray)] : List ByteArray)) := ⟨_, rfl⟩
  replace H : (some (([(⟨0, (-1), ([] : List ByteArray), (⟨#[57]⟩ : ByteArray)⟩ : S35), (⟨1, 0, y0, (⟨#[57]⟩ : ByteArray)⟩ : S35), (⟨2, 0, ([] : List ByteArray), (⟨#[33]⟩ : ByteArray)⟩ : S35), (⟨1, 1, y1, (⟨#[95]⟩ : ByteArray)⟩ : S35), (⟨1, 2, (([(⟨#[49]⟩ : ByteArray), (⟨#[95]⟩ : ByteArray)] : List ByteArray)), (⟨#[95]⟩ : ByteArray)⟩ : S35)] : List (S35)))) = some r := by first | (rw [i1]; with_reducible exact H) | (have H2_ := (Option.bind_some _ _).symm.trans H; rw [i1]; with_reducible exact H2_) | (have H2_ := (Option.bind_some _ _).symm.trans H; with_reducible exact H2_) | with_reducible exact H | (rw [i1]; exact H) | exact H
  have Y1 := Aside0.mk i1
  clear i1
  obtain ⟨y2, i2⟩ : ∃ y_ : List ByteArray, y_ = (([(⟨#[49]⟩ : ByteArray), (⟨#[95]⟩ : ByteArray)] : List ByteArray)) := ⟨_, rfl⟩
  replace H : (some (([(⟨0, (-1), ([] : List ByteArray), (⟨#[57]⟩ : ByteArray)⟩ : S35), (⟨1, 0, y0, (⟨#[57]⟩ : ByteArray)⟩ : S35), (⟨2, 0, ([] : List ByteArray), (⟨#[33]⟩ : ByteArray)⟩ : S35), (⟨1, 1, y1, (⟨#[95]⟩ : ByteArray)⟩ : S35), (⟨1, 2, y2, (⟨#[95]⟩ : ByteArray)⟩ : S35)] : List (S35)))) = some r := by first | (rw [i2]; with_reducible exact H) | (have H2_ := (Option.bind_some _ _).symm.trans H; rw [i2]; with_reducible exact H2_) | (have H2_ := (Option.bind_some _ _).symm.trans H; with_reducible exact H2_) | with_reducible exact H | (rw [i2]; exact H) | exact H
  have Y2 := Aside0.mk i2
  clear i2
  obtain ⟨y3, i3⟩ : ∃ y_ : List (S35), y_ = (([(⟨0, (-1), ([] : List ByteArray), (⟨#[57]⟩ : ByteArray)⟩ : S35), (⟨1, 0, y0, (⟨#[57]⟩ : ByteArray)⟩ : S35), (⟨2, 0, ([] : List ByteArray), (⟨#[33]⟩ : ByteArray)⟩ : S35), (⟨1, 1, y1, (⟨#[95]⟩ : ByteArray)⟩ : S35), (⟨1, 2, y2, (⟨#[95]⟩ : ByteArray)⟩ : S35)] : List (S35))) := ⟨_, rfl⟩
  replace H : (some y3) = some r := by first | (rw [i3]; with_reducible exact H) | (have H2_ := (Option.bind_some _ _).symm.trans H; rw [i3]; with_reducible exact H2_) | (have H2_ := (Option.bind_some _ _).symm.trans H; with_reducible exact H2_) | with_reducible exact H | (rw [i3]; exact H) | exact H
  have Y3 := Aside0.mk i3
  clear i3
  obtain rfl := Option.some.inj H
  go_enter Tryd.func10, Tryd.ntmps10
  go_wp2_with (first | ((with_reducible refine gate_dst (N := 2) rfl ?_); refine Kd.R_lit Kd.string _ 9 ?hg (N := 2) ?hd (xs := ([(⟨#[64, 55, 40, 95, 32, 52, 41]⟩ : ByteArray), (⟨#[53]⟩ : ByteArray)] : List ByteArray)) (inner := [.string (⟨#[64, 55, 40, 95, 32, 52, 41]⟩ : ByteArray), .string (⟨#[53]⟩ : ByteArray)]) (ok := fun _ => True) (okp := fun _ => True) ?hr ?hp (fun _ hk => hk) trivial (Below.refl _ _) (Nat.le_refl _) (by simp) ?_; (case hd => rfl); (case hg => rfl); (case hr => first | (go_simp; done) | (go_simp; rfl)); (case hp => exact (Reps.one (show Kd.M Kd.string _ _ _ (⟨#[64, 55, 40, 95, 32, 52, 41]⟩ : ByteArray) [.string (⟨#[64, 55, 40, 95, 32, 52, 41]⟩ : ByteArray)] from rfl) (Reps.one (show Kd.M Kd.string _ _ _ (⟨#[53]⟩ : ByteArray) [.string (⟨#[53]⟩ : ByteArray)] from rfl) (Reps.none _ _)))); intro v0 w1 ho2 hb hg_ hnew_; clear hg_ hnew_; (first | rw [← Y0.out] at ho2 | (simp only [Int.reduceToNat] at ho2; rw [← Y0.out] at ho2)); have n0_ := Aside0.mk (Kd.R_lower (Kd.R_newM (M := fun k_ => (w.heap.size ≤ k_)) ho2 hS_ (fun k_ h_ => h_)) hS_); have n1_ := Aside0.mk (below_step hB_ hb); clear HB; have P0 := n0_; have HB := n1_; clear n0_ n1_; clear hb ho2; obtain ⟨a0, o0, e0⟩ := Kd.R_slice P0.out; subst e0) | ((with_reducible refine gate_dst (N := 5) rfl ?_); refine Kd.R_lit Kd.string _ 9 ?hg (N := 5) ?hd (xs := ([(⟨#[49]⟩ : ByteArray), (⟨#[95]⟩ : ByteArray)] : List ByteArray)) (inner := [.string (⟨#[49]⟩ : ByteArray), .string (⟨#[95]⟩ : ByteArray)]) (ok := fun _ => True) (okp := fun _ => True) ?hr ?hp (fun _ hk => hk) trivial (Below.refl _ _) (Nat.le_refl _) (by simp) ?_; (case hd => rfl); (case hg => rfl); (case hr => first | (go_simp; done) | (go_simp; rfl)); (case hp => exact (Reps.one (show Kd.M Kd.string _ _ _ (⟨#[49]⟩ : ByteArray) [.string (⟨#[49]⟩ : ByteArray)] from rfl) (Reps.one (show Kd.M Kd.string _ _ _ (⟨#[95]⟩ : ByteArray) [.string (⟨#[95]⟩ : ByteArray)] from rfl) (Reps.none _ _)))); intro v1 w4 ho5 hb hg_ hnew_; clear hg_ hnew_; (first | rw [← Y1.out] at ho5 | (simp only [Int.reduceToNat] at ho5; rw [← Y1.out] at ho5)); have n0_ := Aside0.mk (Kd.R_elder' (hR_ P0.out) (Kd.R_base ho5) hb); have n1_ := Aside0.mk (Kd.R_lower (Kd.R_new' (Kd.R_newM (M := fun k_ => (w.heap.size ≤ k_)) ho5 hS_ (fun k_ h_ => h_)) (Kd.R_lt (hR_ P0.out))) hS_); have n2_ := Aside0.mk (below_step hB_ hb); clear P0 HB; have P0 := n0_; have P1 := n1_; have HB := n2_; clear n0_ n1_ n2_; clear hb ho5; obtain ⟨a1, o1, e1⟩ := Kd.R_slice P1.out; subst e1) | ((with_reducible refine gate_dst (N := 7) rfl ?_); refine Kd.R_lit Kd.string _ 9 ?hg (N := 7) ?hd (xs := ([(⟨#[49]⟩ : ByteArray), (⟨#[95]⟩ : ByteArray)] : List ByteArray)) (inner := [.string (⟨#[49]⟩ : ByteArray), .string (⟨#[95]⟩ : ByteArray)]) (ok := fun _ => True) (okp := fun _ => True) ?hr ?hp (fun _ hk => hk) trivial (Below.refl _ _) (Nat.le_refl _) (by simp) ?_; (case hd => rfl); (case hg => rfl); (case hr => first | (go_simp; done) | (go_simp; rfl)); (case hp => exact (Reps.one (show Kd.M Kd.string _ _ _ (⟨#[49]⟩ : ByteArray) [.string (⟨#[49]⟩ : ByteArray)] from rfl) (Reps.one (show Kd.M Kd.string _ _ _ (⟨#[95]⟩ : ByteArray) [.string (⟨#[95]⟩ : ByteArray)] from rfl) (Reps.none _ _)))); intro v2 w7 ho8 hb hg_ hnew_; clear hg_ hnew_; (first | rw [← Y2.out] at ho8 | (simp only [Int.reduceToNat] at ho8; rw [← Y2.out] at ho8)); have n0_ := Aside0.mk (Kd.R_elder' (hR_ P0.out) (Kd.R_base ho8) hb); have n1_ := Aside0.mk (Kd.R_elder' (hR_ P1.out) (Kd.R_base ho8) hb); have n2_ := Aside0.mk (Kd.R_lower (Kd.R_new' (Kd.R_new' (Kd.R_newM (M := fun k_ => (w.heap.size ≤ k_)) ho8 hS_ (fun k_ h_ => h_)) (Kd.R_lt (hR_ P0.out))) (Kd.R_lt (hR_ P1.out))) hS_); have n3_ := Aside0.mk (below_step hB_ hb); clear P0 P1 HB; have P0 := n0_; have P1 := n1_; have P2 := n2_; have HB := n3_; clear n0_ n1_ n2_ n3_; clear hb ho8; obtain ⟨a2, o2, e2⟩ := Kd.R_slice P2.out; subst e2) | ((with_reducible refine gate_dst (N := 9) rfl ?_); refine Kd.N_lit k35 _ 35 ?hg (N' := 9) ?hd (xs := ([(⟨0, (-1), ([] : List ByteArray), (⟨#[57]⟩ : ByteArray)⟩ : S35), (⟨1, 0, y0, (⟨#[57]⟩ : ByteArray)⟩ : S35), (⟨2, 0, ([] : List ByteArray), (⟨#[33]⟩ : ByteArray)⟩ : S35), (⟨1, 1, y1, (⟨#[95]⟩ : ByteArray)⟩ : S35), (⟨1, 2, y2, (⟨#[95]⟩ : ByteArray)⟩ : S35)] : List (S35))) (inner := [.int .i64 0, .int .i64 (-1), .slice none 0 0, .string (⟨#[57]⟩ : ByteArray), .int .i64 1, .int .i64 0, .slice a0 y0.length o0, .string (⟨#[57]⟩ : ByteArray), .int .i64 2, .int .i64 0, .slice none 0 0, .string (⟨#[33]⟩ : ByteArray), .int .i64 1, .int .i64 1, .slice a1 y1.length o1, .string (⟨#[95]⟩ : ByteArray), .int .i64 1, .int .i64 2, .slice a2 y2.length o2, .string (⟨#[95]⟩ : ByteArray)]) (ok := (fun k_ => (w.heap.size ≤ k_))) (okp := (fun k_ => (w.heap.size ≤ k_))) ?hr ?hp (fun _ hk => hk) ((show ∀ k_, w7.heap.size ≤ k_ → (fun k_ => (w.heap.size ≤ k_)) k_ from fun k_ hk => (Nat.le_trans hS_ hk)) _ (Nat.le_refl _)) (Below.refl _ _) (Nat.le_refl _) (by simp) ?_; (case hd => rfl); (case hg => rfl); (case hr => first | (go_simp; done) | (go_simp; rfl)); (case hp => exact (Reps.c4 (show Kd.FK k35 _ _ (⟨0, (-1), ([] : List ByteArray), (⟨#[57]⟩ : ByteArray)⟩ : S35) [.int .i64 0, .int .i64 (-1), .slice none 0 0, .string (⟨#[57]⟩ : ByteArray)] from (k35_mkF _ _ (⟨0, (-1), ([] : List ByteArray), (⟨#[57]⟩ : ByteArray)⟩ : S35) (Nat.le_refl _) (Kd.F_nil _ _ _))) (Reps.c4 (show Kd.FK k35 _ _ (⟨1, 0, y0, (⟨#[57]⟩ : ByteArray)⟩ : S35) [.int .i64 1, .int .i64 0, .slice a0 y0.length o0, .string (⟨#[57]⟩ : ByteArray)] from (k35_mkF _ _ (⟨1, 0, y0, (⟨#[57]⟩ : ByteArray)⟩ : S35) (Kd.R_reads' (Kd.R_mono (ok' := (fun k_ => (w.heap.size ≤ k_))) (P0.out) (fun k_ hk => hk.1.1.1))).2.1 (Kd.R_F (Kd.R_mono (ok' := (fun k_ => (w.heap.size ≤ k_))) (P0.out) (fun k_ hk => hk.1.1.1))))) (Reps.c4 (show Kd.FK k35 _ _ (⟨2, 0, ([] : List ByteArray), (⟨#[33]⟩ : ByteArray)⟩ : S35) [.int .i64 2, .int .i64 0, .slice none 0 0, .string (⟨#[33]⟩ : ByteArray)] from (k35_mkF _ _ (⟨2, 0, ([] : List ByteArray), (⟨#[33]⟩ : ByteArray)⟩ : S35) (Nat.le_refl _) (Kd.F_nil _ _ _))) (Reps.c4 (show Kd.FK k35 _ _ (⟨1, 1, y1, (⟨#[95]⟩ : ByteArray)⟩ : S35) [.int .i64 1, .int .i64 1, .slice a1 y1.length o1, .string (⟨#[95]⟩ : ByteArray)] from (k35_mkF _ _ (⟨1, 1, y1, (⟨#[95]⟩ : ByteArray)⟩ : S35) (Kd.R_reads' (Kd.R_mono (ok' := (fun k_ => (w.heap.size ≤ k_))) (P1.out) (fun k_ hk => hk.1.1.1))).2.1 (Kd.R_F (Kd.R_mono (ok' := (fun k_ => (w.heap.size ≤ k_))) (P1.out) (fun k_ hk => hk.1.1.1))))) (Reps.c4 (show Kd.FK k35 _ _ (⟨1, 2, y2, (⟨#[95]⟩ : ByteArray)⟩ : S35) [.int .i64 1, .int .i64 2, .slice a2 y2.length o2, .string (⟨#[95]⟩ : ByteArray)] from (k35_mkF _ _ (⟨1, 2, y2, (⟨#[95]⟩ : ByteArray)⟩ : S35) (Kd.R_reads' (Kd.R_mono (ok' := (fun k_ => (w.heap.size ≤ k_))) (P2.out) (fun k_ hk => hk.1.1.1))).2.1 (Kd.R_F (Kd.R_mono (ok' := (fun k_ => (w.heap.size ≤ k_))) (P2.out) (fun k_ hk => hk.1.1.1))))) (Reps.none _ _))))))); intro v3 w0 ho11 hb hg_ hnew_; clear hg_ hnew_; (first | rw [← Y3.out] at ho11 | (simp only [Int.reduceToNat] at ho11; rw [← Y3.out] at ho11)); have n0_ := Aside0.mk (Kd.N_lower ho11 hS_); have n1_ := Aside0.mk (below_step hB_ hb); clear HB P0 P1 P2; have P3 := n0_; have HB := n1_; clear n0_ n1_; clear hb ho11))
  go_ret
  exact ⟨_, hV_, hN_ P3.out, hC_⟩

def sleuthlaw0_SameInts.l0 : Nat → List Int → List Int → Int → Option (Bool)
  | 0, _, _, _ => none
  | k + 1, x0, x1, x5 => if x5 < (x0.length : Int) then (if 0 ≤ x5 then (if x5 < (x1.length : Int) then (if (rd x0 x5) = (rd x1 x5) then (sleuthlaw0_SameInts.l0 k x0 x1 (wrap64 (x5 + 1))) else (some false)) else (none)) else (none)) else (some true)
def sleuthlaw0_SameInts.f (k : Nat) (l0 : List Int) (l1 : List Int) : Option (Bool) := if (l0.length : Int) = (l1.length : Int) then (sleuthlaw0_SameInts.l0 k l0 l1 0) else (some false)
set_option maxHeartbeats 8000000 in
set_option maxRecDepth 100000 in
theorem sleuthlaw0_SameInts.calls (k : Nat) (A0 : Option Addr) (c0 : Nat) (l0 : List Int) (A1 : Option Addr) (c1 : Nat) (l1 : List Int) (r : Bool) (w : World) (hr0 : Kd.C (Kd.int .i64) w A0 l0.length l0) (hc0 : l0.length ≤ c0) (hr1 : Kd.C (Kd.int .i64) w A1 l1.length l1) (hc1 : l1.length ≤ c1) (h : sleuthlaw0_SameInts.f k l0 l1 = some r) :
    Calls Tryd.prog 11 #[.slice A0 l0.length c0, .slice A1 l1.length c1] w fun e w' => e = .returned (.bool r) ∧ Drawn0 w w' := by
  have HR0 := Aside0.mk hr0
  have HC0 := Aside0.mk hc0
  clear hr0 hc0
  have HR1 := Aside0.mk hr1
  have HC1 := Aside0.mk hc1
  clear hr1 hc1
  have H : (if (l0.length : Int) = (l1.length : Int) then (sleuthlaw0_SameInts.l0 k l0 l1 0) else (some false)) = some r := h
  clear h
  by_cases c3 : (l0.length : Int) = (l1.length : Int)
  case neg =>
    rw [if_neg c3] at H
    have c3b0 : ((l0.length : Int) == (l1.length : Int)) = false := beq_eq_false_iff_ne.mpr c3
    have c3b1 : ((l0.length : Int) != (l1.length : Int)) = true := bne_iff_ne.mpr c3
    have c3b2 : (l0.length == l1.length) = false := by first | simpa using c3 | (simp at c3 ⊢; omega)
    obtain rfl := Option.some.inj H
    go_enter Tryd.func11, Tryd.ntmps11
    go_wp2
    repeat (go_quiet (fail); try go_wp2)
    go_ret
    exact ⟨by first | rfl | (simp; done) | (simp [*]; done), by repeat (first | exact Drawn0.refl _ | apply Drawn0.step)⟩

  rw [if_pos c3] at H
  have c3b0 : ((l0.length : Int) == (l1.length : Int)) = true := beq_iff_eq.mpr c3
  have c3b1 : ((l0.length : Int) != (l1.length : Int)) = false := bne_eq_false_iff_eq.mpr c3
  have c3b2 : (l0.length == l1.length) = true := by first | simpa using c3 | (simp at c3 ⊢; omega)
  clear c3
  have H' := Aside0.mk H
  clear H
  go_enter Tryd.func11, Tryd.ntmps11
  go_wp2
  repeat (go_quiet (fail); try go_wp2)
  go_loopg [5] k (fun kq v5 w' => ∃ (x0 : Int), v5 = .int .i64 x0 ∧ Aside0 (sleuthlaw0_SameInts.l0 kq l0 l1 x0 = some r) ∧ Aside0 (kq ≤ k) ∧ Drawn0 w w')
  case atStart => exact ⟨(0), hW_, H', ⟨Nat.le_refl _⟩, by repeat (first | exact Drawn0.refl _ | apply Drawn0.step)⟩
  case round =>
    clear H'
    try clear c1
    try clear p2
    try clear c3
    try clear c3b0
    try clear c3b1
    try clear c3b2
    obtain ⟨x0, rfl, HA, HK1, ⟨m1, rfl⟩⟩ := hrel
    cases gk with
    | zero => exact absurd HA.out (by simp [sleuthlaw0_SameInts.l0])
    | succ k1 =>
      have H := HA.out
      clear HA
      simp only [sleuthlaw0_SameInts.l0] at H
      by_cases c4 : x0 < (l0.length : Int)
      case neg =>
        rw [if_neg c4] at H
        have c4b0 : decide (x0 < (l0.length : Int)) = false := decide_eq_false c4
        clear c4
        obtain rfl := Option.some.inj H
        go_wp2
        repeat (go_quiet (fail); try go_wp2)
        go_ret
        exact ⟨by first | rfl | (simp; done) | (simp [*]; done), by repeat (first | exact Drawn0.refl _ | apply Drawn0.step)⟩
      rw [if_pos c4] at H
      have c4b0 : decide (x0 < (l0.length : Int)) = true := decide_eq_true c4
      clear c4
      replace H := ifI_ H; obtain ⟨c5, H⟩ := H
      have c5b0 : decide (0 ≤ x0) = true := decide_eq_true c5
      clear c5
      replace H := ifI_ H; obtain ⟨c6, H⟩ := H
      have c6b0 : decide (x0 < (l1.length : Int)) = true := decide_eq_true c6
      clear c6
      by_cases c7 : (rd l0 x0) = (rd l1 x0)
      case neg =>
        rw [if_neg c7] at H
        have c7b0 : ((rd l0 x0) == (rd l1 x0)) = false := beq_eq_false_iff_ne.mpr c7
        have c7b1 : ((rd l0 x0) != (rd l1 x0)) = true := bne_iff_ne.mpr c7
        obtain rfl := Option.some.inj H
        have p150 : 0 ≤ (x0 : Int) := of_decide_eq_true hA_
        have q150 : x0 < (l0.length : Int) := of_decide_eq_true hA_
        obtain ⟨d0, e150, h0⟩ := Kd.at_int HR0.out x0 p150 q150
        cases e150
        replace p150 := eq_true p150
        replace q150 := eq_true q150
        have p151 : 0 ≤ (x0 : Int) := of_decide_eq_true hA_
        have q151 : x0 < (l1.length : Int) := of_decide_eq_true hA_
        obtain ⟨d1, e151, h1⟩ := Kd.at_int HR1.out x0 p151 q151
        cases e151
        replace p151 := eq_true p151
        replace q151 := eq_true q151
        go_wp2
        repeat (go_quiet (fail); try go_wp2)
        go_ret
        exact ⟨by first | rfl | (simp; done) | (simp [*]; done), by repeat (first | exact Drawn0.refl _ | apply Drawn0.step)⟩
      rw [if_pos c7] at H
      have c7b0 : ((rd l0 x0) == (rd l1 x0)) = true := beq_iff_eq.mpr c7
      have c7b1 : ((rd l0 x0) != (rd l1 x0)) = false := bne_eq_false_iff_eq.mpr c7
      clear c7
      have H' := Aside0.mk H
      clear H
      have p150 : 0 ≤ (x0 : Int) := of_decide_eq_true hA_
      have q150 : x0 < (l0.length : Int) := of_decide_eq_true hA_
      obtain ⟨d0, e150, h0⟩ := Kd.at_int HR0.out x0 p150 q150
      cases e150
      replace p150 := eq_true p150
      replace q150 := eq_true q150
      have p151 : 0 ≤ (x0 : Int) := of_decide_eq_true hA_
      have q151 : x0 < (l1.length : Int) := of_decide_eq_true hA_
      obtain ⟨d1, e151, h1⟩ := Kd.at_int HR1.out x0 p151 q151
      cases e151
      replace p151 := eq_true p151
      replace q151 := eq_true q151
      go_wp2
      repeat (go_quiet (fail); try go_wp2)
      go_roundg k1
      case measure => have := HK1.out; omega
      case rel => exact ⟨(wrap64 (x0 + 1)), hW_, H', ⟨by have := HK1.out; omega⟩, by repeat (first | exact Drawn0.refl _ | apply Drawn0.step)⟩
def sleuthlaw13_awake.f (k : Nat)  : Option (Bool) := (sleuthlaw13_some.f).bind fun t152 => ((tree_Kids.f k t152 0).bind fun bt155 => ((sleuthlaw13_some.f).bind fun t159 => ((tree_Size.f k t159 1).bind fun bt162 => ((sleuthlaw13_some.f).bind fun t164 => ((tree_Size.f k t164 0).bind fun bt167 => ((sleuthlaw13_some.f).bind fun t169 => ((tree_Kids.f k t169 5).bind fun bt172 => ((tree_Size.f k ([] : List (S35)) 0).bind fun bt176 => ((sleuthlaw0_SameInts.f k bt155.1 (([1, 2] : List Int))).bind fun t181 => (if t181 = true then ((sleuthlaw0_Num.f bt155.2).bind fun t182 => (if t182 = 0 then (if bt162.1 = 2 then ((sleuthlaw0_Num.f bt162.2).bind fun t183 => (if t183 = 0 then (if bt167.1 = 5 then ((sleuthlaw0_Num.f bt167.2).bind fun t184 => (if t184 = 0 then ((sleuthlaw0_Num.f bt172.2).bind fun t185 => (if t185 = 1300 then ((sleuthlaw0_Num.f bt176.2).bind fun t186 => (some (t186 == 1300))) else (none))) else (none))) else (none)) else (none))) else (none)) else (none))) else (none)))))))))))
set_option maxHeartbeats 8000000 in
set_option maxRecDepth 100000 in
theorem sleuthlaw13_awake.calls (k : Nat)  (r : Bool) (w : World) (h : sleuthlaw13_awake.f k  = some r) (hG : GOK w) :
    Calls Tryd.prog 5 #[] w fun e w' => e = .returned (.bool r) ∧ Below w.heap.size w w' := by
  have HB := Aside0.mk (Below.refl w.heap.size w)
  have H : ((sleuthlaw13_some.f).bind fun t17 => ((tree_Kids.f k t17 0).bind fun bt155 => ((sleuthlaw13_some.f).bind fun t11 => ((tree_Size.f k t11 1).bind fun bt162 => ((sleuthlaw13_some.f).bind fun t8 => ((tree_Size.f k t8 0).bind fun bt167 => ((sleuthlaw13_some.f).bind fun t6 => ((tree_Kids.f k t6 5).bind fun bt172 => ((tree_Size.f k ([] : List (S35)) 0).bind fun bt176 => ((sleuthlaw0_SameInts.f k bt155.1 (([1, 2] : List Int))).bind fun t5 => (if t5 = true then ((sleuthlaw0_Num.f bt155.2).bind fun t4 => (if t4 = 0 then (if bt162.1 = 2 then ((sleuthlaw0_Num.f bt162.2).bind fun t3 => (if t3 = 0 then (if bt167.1 = 5 then ((sleuthlaw0_Num.f bt167.2).bind fun t1 => (if t1 = 0 then ((sleuthlaw0_Num.f bt172.2).bind fun t0 => (if t0 = 1300 then ((sleuthlaw0_Num.f bt176.2).bind fun t2 => (some (t2 == 1300))) else (none))) else (none))) else (none)) else (none))) else (none)) else (none))) else (none)))))))))))) = some r := h
  clear h
  replace H := Option.bind_eq_some_iff.mp H
  obtain ⟨t17, A10, H⟩ := H
  replace H : ((tree_Kids.f k t17 0).bind fun bt155 => ((sleuthlaw13_some.f).bind fun t11 => ((tree_Size.f k t11 1).bind fun bt162 => ((sleuthlaw13_some.f).bind fun t8 => ((tree_Size.f k t8 0).bind fun bt167 => ((sleuthlaw13_some.f).bind fun t6 => ((tree_Kids.f k t6 5).bind fun bt172 => ((tree_Size.f k ([] : List (S35)) 0).bind fun bt176 => ((sleuthlaw0_SameInts.f k bt155.1 (([1, 2] : List Int))).bind fun t5 => (if t5 = true then ((sleuthlaw0_Num.f bt155.2).bind fun t4 => (if t4 = 0 then (if bt162.1 = 2 then ((sleuthlaw0_Num.f bt162.2).bind fun t3 => (if t3 = 0 then (if bt167.1 = 5 then ((sleuthlaw0_Num.f bt167.2).bind fun t1 => (if t1 = 0 then ((sleuthlaw0_Num.f bt172.2).bind fun t0 => (if t0 = 1300 then ((sleuthlaw0_Num.f bt176.2).bind fun t2 => (some (t2 == 1300))) else (none))) else (none))) else (none)) else (none))) else (none)) else (none))) else (none))))))))))) = some r := H
  have A1 := Aside0.mk A10
  clear A10
  replace H := Option.bind_eq_some_iff.mp H
  obtain ⟨⟨t12, t10⟩, A20, H⟩ := H
  replace H : ((sleuthlaw13_some.f).bind fun t11 => ((tree_Size.f k t11 1).bind fun bt162 => ((sleuthlaw13_some.f).bind fun t8 => ((tree_Size.f k t8 0).bind fun bt167 => ((sleuthlaw13_some.f).bind fun t6 => ((tree_Kids.f k t6 5).bind fun bt172 => ((tree_Size.f k ([] : List (S35)) 0).bind fun bt176 => ((sleuthlaw0_SameInts.f k t12 (([1, 2] : List Int))).bind fun t5 => (if t5 = true then ((sleuthlaw0_Num.f t10).bind fun t4 => (if t4 = 0 then (if bt162.1 = 2 then ((sleuthlaw0_Num.f bt162.2).bind fun t3 => (if t3 = 0 then (if bt167.1 = 5 then ((sleuthlaw0_Num.f bt167.2).bind fun t1 => (if t1 = 0 then ((sleuthlaw0_Num.f bt172.2).bind fun t0 => (if t0 = 1300 then ((sleuthlaw0_Num.f bt176.2).bind fun t2 => (some (t2 == 1300))) else (none))) else (none))) else (none)) else (none))) else (none)) else (none))) else (none)))))))))) = some r := H
  have A2 := Aside0.mk A20
  clear A20
  replace H := Option.bind_eq_some_iff.mp H
  obtain ⟨t11, A30, H⟩ := H
  replace H : ((tree_Size.f k t11 1).bind fun bt162 => ((sleuthlaw13_some.f).bind fun t8 => ((tree_Size.f k t8 0).bind fun bt167 => ((sleuthlaw13_some.f).bind fun t6 => ((tree_Kids.f k t6 5).bind fun bt172 => ((tree_Size.f k ([] : List (S35)) 0).bind fun bt176 => ((sleuthlaw0_SameInts.f k t12 (([1, 2] : List Int))).bind fun t5 => (if t5 = true then ((sleuthlaw0_Num.f t10).bind fun t4 => (if t4 = 0 then (if bt162.1 = 2 then ((sleuthlaw0_Num.f bt162.2).bind fun t3 => (if t3 = 0 then (if bt167.1 = 5 then ((sleuthlaw0_Num.f bt167.2).bind fun t1 => (if t1 = 0 then ((sleuthlaw0_Num.f bt172.2).bind fun t0 => (if t0 = 1300 then ((sleuthlaw0_Num.f bt176.2).bind fun t2 => (some (t2 == 1300))) else (none))) else (none))) else (none)) else (none))) else (none)) else (none))) else (none))))))))) = some r := H
  have A3 := Aside0.mk A30
  clear A30
  replace H := Option.bind_eq_some_iff.mp H
  obtain ⟨⟨t7, t13⟩, A40, H⟩ := H
  replace H : ((sleuthlaw13_some.f).bind fun t8 => ((tree_Size.f k t8 0).bind fun bt167 => ((sleuthlaw13_some.f).bind fun t6 => ((tree_Kids.f k t6 5).bind fun bt172 => ((tree_Size.f k ([] : List (S35)) 0).bind fun bt176 => ((sleuthlaw0_SameInts.f k t12 (([1, 2] : List Int))).bind fun t5 => (if t5 = true then ((sleuthlaw0_Num.f t10).bind fun t4 => (if t4 = 0 then (if t7 = 2 then ((sleuthlaw0_Num.f t13).bind fun t3 => (if t3 = 0 then (if bt167.1 = 5 then ((sleuthlaw0_Num.f bt167.2).bind fun t1 => (if t1 = 0 then ((sleuthlaw0_Num.f bt172.2).bind fun t0 => (if t0 = 1300 then ((sleuthlaw0_Num.f bt176.2).bind fun t2 => (some (t2 == 1300))) else (none))) else (none))) else (none)) else (none))) else (none)) else (none))) else (none)))))))) = some r := H
  have A4 := Aside0.mk A40
  clear A40
  replace H := Option.bind_eq_some_iff.mp H
  obtain ⟨t8, A50, H⟩ := H
  replace H : ((tree_Size.f k t8 0).bind fun bt167 => ((sleuthlaw13_some.f).bind fun t6 => ((tree_Kids.f k t6 5).bind fun bt172 => ((tree_Size.f k ([] : List (S35)) 0).bind fun bt176 => ((sleuthlaw0_SameInts.f k t12 (([1, 2] : List Int))).bind fun t5 => (if t5 = true then ((sleuthlaw0_Num.f t10).bind fun t4 => (if t4 = 0 then (if t7 = 2 then ((sleuthlaw0_Num.f t13).bind fun t3 => (if t3 = 0 then (if bt167.1 = 5 then ((sleuthlaw0_Num.f bt167.2).bind fun t1 => (if t1 = 0 then ((sleuthlaw0_Num.f bt172.2).bind fun t0 => (if t0 = 1300 then ((sleuthlaw0_Num.f bt176.2).bind fun t2 => (some (t2 == 1300))) else (none))) else (none))) else (none)) else (none))) else (none)) else (none))) else (none))))))) = some r := H
  have A5 := Aside0.mk A50
  clear A50
  replace H := Option.bind_eq_some_iff.mp H
  obtain ⟨⟨t9, t14⟩, A60, H⟩ := H
  replace H : ((sleuthlaw13_some.f).bind fun t6 => ((tree_Kids.f k t6 5).bind fun bt172 => ((tree_Size.f k ([] : List (S35)) 0).bind fun bt176 => ((sleuthlaw0_SameInts.f k t12 (([1, 2] : List Int))).bind fun t5 => (if t5 = true then ((sleuthlaw0_Num.f t10).bind fun t4 => (if t4 = 0 then (if t7 = 2 then ((sleuthlaw0_Num.f t13).bind fun t3 => (if t3 = 0 then (if t9 = 5 then ((sleuthlaw0_Num.f t14).bind fun t1 => (if t1 = 0 then ((sleuthlaw0_Num.f bt172.2).bind fun t0 => (if t0 = 1300 then ((sleuthlaw0_Num.f bt176.2).bind fun t2 => (some (t2 == 1300))) else (none))) else (none))) else (none)) else (none))) else (none)) else (none))) else (none)))))) = some r := H
  have A6 := Aside0.mk A60
  clear A60
  replace H := Option.bind_eq_some_iff.mp H
  obtain ⟨t6, A70, H⟩ := H
  replace H : ((tree_Kids.f k t6 5).bind fun bt172 => ((tree_Size.f k ([] : List (S35)) 0).bind fun bt176 => ((sleuthlaw0_SameInts.f k t12 (([1, 2] : List Int))).bind fun t5 => (if t5 = true then ((sleuthlaw0_Num.f t10).bind fun t4 => (if t4 = 0 then (if t7 = 2 then ((sleuthlaw0_Num.f t13).bind fun t3 => (if t3 = 0 then (if t9 = 5 then ((sleuthlaw0_Num.f t14).bind fun t1 => (if t1 = 0 then ((sleuthlaw0_Num.f bt172.2).bind fun t0 => (if t0 = 1300 then ((sleuthlaw0_Num.f bt176.2).bind fun t2 => (some (t2 == 1300))) else (none))) else (none))) else (none)) else (none))) else (none)) else (none))) else (none))))) = some r := H
  have A7 := Aside0.mk A70
  clear A70
  replace H := Option.bind_eq_some_iff.mp H
  obtain ⟨⟨t18, t15⟩, A80, H⟩ := H
  replace H : ((tree_Size.f k ([] : List (S35)) 0).bind fun bt176 => ((sleuthlaw0_SameInts.f k t12 (([1, 2] : List Int))).bind fun t5 => (if t5 = true then ((sleuthlaw0_Num.f t10).bind fun t4 => (if t4 = 0 then (if t7 = 2 then ((sleuthlaw0_Num.f t13).bind fun t3 => (if t3 = 0 then (if t9 = 5 then ((sleuthlaw0_Num.f t14).bind fun t1 => (if t1 = 0 then ((sleuthlaw0_Num.f t15).bind fun t0 => (if t0 = 1300 then ((sleuthlaw0_Num.f bt176.2).bind fun t2 => (some (t2 == 1300))) else (none))) else (none))) else (none)) else (none))) else (none)) else (none))) else (none)))) = some r := H
  have A8 := Aside0.mk A80
  clear A80
  replace H := Option.bind_eq_some_iff.mp H
  obtain ⟨⟨t19, t16⟩, A90, H⟩ := H
  replace H : ((sleuthlaw0_SameInts.f k t12 (([1, 2] : List Int))).bind fun t5 => (if t5 = true then ((sleuthlaw0_Num.f t10).bind fun t4 => (if t4 = 0 then (if t7 = 2 then ((sleuthlaw0_Num.f t13).bind fun t3 => (if t3 = 0 then (if t9 = 5 then ((sleuthlaw0_Num.f t14).bind fun t1 => (if t1 = 0 then ((sleuthlaw0_Num.f t15).bind fun t0 => (if t0 = 1300 then ((sleuthlaw0_Num.f t16).bind fun t2 => (some (t2 == 1300))) else (none))) else (none))) else (none)) else (none))) else (none)) else (none))) else (none))) = some r := H
  have A9 := Aside0.mk A90
  clear A90
  obtain ⟨y0, i0⟩ : ∃ y_ : List Int, y_ = (([1, 2] : List Int)) := ⟨_, rfl⟩
  replace H : ((sleuthlaw0_SameInts.f k t12 y0).bind fun t5 => (if t5 = true then ((sleuthlaw0_Num.f t10).bind fun t4 => (if t4 = 0 then (if t7 = 2 then ((sleuthlaw0_Num.f t13).bind fun t3 => (if t3 = 0 then (if t9 = 5 then ((sleuthlaw0_Num.f t14).bind fun t1 => (if t1 = 0 then ((sleuthlaw0_Num.f t15).bind fun t0 => (if t0 = 1300 then ((sleuthlaw0_Num.f t16).bind fun t2 => (some (t2 == 1300))) else (none))) else (none))) else (none)) else (none))) else (none)) else (none))) else (none))) = some r := by first | (rw [i0]; with_reducible exact H) | (have H2_ := (Option.bind_some _ _).symm.trans H; rw [i0]; with_reducible exact H2_) | (have H2_ := (Option.bind_some _ _).symm.trans H; with_reducible exact H2_) | with_reducible exact H | (rw [i0]; exact H) | exact H
  have Y0 := Aside0.mk i0
  clear i0
  replace H := Option.bind_eq_some_iff.mp H
  obtain ⟨t5, A100, H⟩ := H
  replace H : (if t5 = true then ((sleuthlaw0_Num.f t10).bind fun t4 => (if t4 = 0 then (if t7 = 2 then ((sleuthlaw0_Num.f t13).bind fun t3 => (if t3 = 0 then (if t9 = 5 then ((sleuthlaw0_Num.f t14).bind fun t1 => (if t1 = 0 then ((sleuthlaw0_Num.f t15).bind fun t0 => (if t0 = 1300 then ((sleuthlaw0_Num.f t16).bind fun t2 => (some (t2 == 1300))) else (none))) else (none))) else (none)) else (none))) else (none)) else (none))) else (none)) = some r := H
  have A10 := Aside0.mk A100
  clear A100
  by_cases c11 : t5 = true
  case neg =>
    replace c11 := Bool.eq_false_iff.mpr c11
    subst c11
    have H1 : (none) = some r := by rw [if_neg (show ¬ (false = true) by decide)] at H; exact H
    clear H
    have H := H1
    clear H1
    cases H
  subst c11
  have H1 : ((sleuthlaw0_Num.f t10).bind fun t4 => (if t4 = 0 then (if t7 = 2 then ((sleuthlaw0_Num.f t13).bind fun t3 => (if t3 = 0 then (if t9 = 5 then ((sleuthlaw0_Num.f t14).bind fun t1 => (if t1 = 0 then ((sleuthlaw0_Num.f t15).bind fun t0 => (if t0 = 1300 then ((sleuthlaw0_Num.f t16).bind fun t2 => (some (t2 == 1300))) else (none))) else (none))) else (none)) else (none))) else (none)) else (none))) = some r := by rw [if_pos rfl] at H; exact H
  clear H
  have H := H1
  clear H1
  replace H := Option.bind_eq_some_iff.mp H
  obtain ⟨t4, A120, H⟩ := H
  replace H : (if t4 = 0 then (if t7 = 2 then ((sleuthlaw0_Num.f t13).bind fun t3 => (if t3 = 0 then (if t9 = 5 then ((sleuthlaw0_Num.f t14).bind fun t1 => (if t1 = 0 then ((sleuthlaw0_Num.f t15).bind fun t0 => (if t0 = 1300 then ((sleuthlaw0_Num.f t16).bind fun t2 => (some (t2 == 1300))) else (none))) else (none))) else (none)) else (none))) else (none)) else (none)) = some r := H
  have A12 := Aside0.mk A120
  clear A120
  by_cases c13 : t4 = 0
  case neg =>
    rw [if_neg c13] at H
    have c13b0 : (t4 == 0) = false := beq_eq_false_iff_ne.mpr c13
    have c13b1 : (t4 != 0) = true := bne_iff_ne.mpr c13
    cases H
  rw [if_pos c13] at H
  have c13b0 : (t4 == 0) = true := beq_iff_eq.mpr c13
  have c13b1 : (t4 != 0) = false := bne_eq_false_iff_eq.mpr c13
  clear c13
  by_cases c14 : t7 = 2
  case neg =>
    rw [if_neg c14] at H
    have c14b0 : (t7 == 2) = false := beq_eq_false_iff_ne.mpr c14
    have c14b1 : (t7 != 2) = true := bne_iff_ne.mpr c14
    cases H
  rw [if_pos c14] at H
  have c14b0 : (t7 == 2) = true := beq_iff_eq.mpr c14
  have c14b1 : (t7 != 2) = false := bne_eq_false_iff_eq.mpr c14
  clear c14
  replace H := Option.bind_eq_some_iff.mp H
  obtain ⟨t3, A150, H⟩ := H
  replace H : (if t3 = 0 then (if t9 = 5 then ((sleuthlaw0_Num.f t14).bind fun t1 => (if t1 = 0 then ((sleuthlaw0_Num.f t15).bind fun t0 => (if t0 = 1300 then ((sleuthlaw0_Num.f t16).bind fun t2 => (some (t2 == 1300))) else (none))) else (none))) else (none)) else (none)) = some r := H
  have A15 := Aside0.mk A150
  clear A150
  by_cases c16 : t3 = 0
  case neg =>
    rw [if_neg c16] at H
    have c16b0 : (t3 == 0) = false := beq_eq_false_iff_ne.mpr c16
    have c16b1 : (t3 != 0) = true := bne_iff_ne.mpr c16
    cases H
  rw [if_pos c16] at H
  have c16b0 : (t3 == 0) = true := beq_iff_eq.mpr c16
  have c16b1 : (t3 != 0) = false := bne_eq_false_iff_eq.mpr c16
  clear c16
  by_cases c17 : t9 = 5
  case neg =>
    rw [if_neg c17] at H
    have c17b0 : (t9 == 5) = false := beq_eq_false_iff_ne.mpr c17
    have c17b1 : (t9 != 5) = true := bne_iff_ne.mpr c17
    cases H
  rw [if_pos c17] at H
  have c17b0 : (t9 == 5) = true := beq_iff_eq.mpr c17
  have c17b1 : (t9 != 5) = false := bne_eq_false_iff_eq.mpr c17
  clear c17
  replace H := Option.bind_eq_some_iff.mp H
  obtain ⟨t1, A180, H⟩ := H
  replace H : (if t1 = 0 then ((sleuthlaw0_Num.f t15).bind fun t0 => (if t0 = 1300 then ((sleuthlaw0_Num.f t16).bind fun t2 => (some (t2 == 1300))) else (none))) else (none)) = some r := H
  have A18 := Aside0.mk A180
  clear A180
  by_cases c19 : t1 = 0
  case neg =>
    rw [if_neg c19] at H
    have c19b0 : (t1 == 0) = false := beq_eq_false_iff_ne.mpr c19
    have c19b1 : (t1 != 0) = true := bne_iff_ne.mpr c19
    cases H
  rw [if_pos c19] at H
  have c19b0 : (t1 == 0) = true := beq_iff_eq.mpr c19
  have c19b1 : (t1 != 0) = false := bne_eq_false_iff_eq.mpr c19
  clear c19
  replace H := Option.bind_eq_some_iff.mp H
  obtain ⟨t0, A200, H⟩ := H
  replace H : (if t0 = 1300 then ((sleuthlaw0_Num.f t16).bind fun t2 => (some (t2 == 1300))) else (none)) = some r := H
  have A20 := Aside0.mk A200
  clear A200
  by_cases c21 : t0 = 1300
  case neg =>
    rw [if_neg c21] at H
    have c21b0 : (t0 == 1300) = false := beq_eq_false_iff_ne.mpr c21
    have c21b1 : (t0 != 1300) = true := bne_iff_ne.mpr c21
    cases H
  rw [if_pos c21] at H
  have c21b0 : (t0 == 1300) = true := beq_iff_eq.mpr c21
  have c21b1 : (t0 != 1300) = false := bne_eq_false_iff_eq.mpr c21
  clear c21
  replace H := Option.bind_eq_some_iff.mp H
  obtain ⟨t2, A220, H⟩ := H
  replace H : (some (t2 == 1300)) = some r := H
  have A22 := Aside0.mk A220
  clear A220
  obtain rfl := Option.some.inj H
  go_enter Tryd.func5, Tryd.ntmps5
  go_wp2_with (first | ((with_reducible refine gate_callee (f := 10) rfl ?_); refine goesL_ (some 12) rfl rfl Tryd.func10 (by kernel_rfl) rfl #[] rfl hL_ ?_; (with_reducible refine (sleuthlaw13_some.calls  t17 _ A1.out).mono ?_); rintro e w0 ⟨v1, rfl, ho0, hb⟩; refine ⟨_, rfl, ?_⟩; have n0_ := Aside0.mk (Kd.N_lower (Kd.N_mono (ok' := fun k_ => True) ho0 (fun k_ hk_ => trivial)) hS_); have n1_ := Aside0.mk (below_step hB_ hb); clear HB; have P0 := n0_; have HB := n1_; clear n0_ n1_; (try clear hb); (try clear hb2); (try clear hk); (try clear hi); (try clear ho0); obtain ⟨a0, o0, e0⟩ := Kd.N_slice P0.out; subst e0) | ((with_reducible refine gate_callee (f := 7) rfl ?_); refine goesL_ (some 13) rfl rfl Tryd.func7 (by kernel_rfl) rfl #[.slice a0 t17.length o0, .int .i64 0] rfl hL_ ?_; (with_reducible refine (tree_Kids.calls k _ _ t17 0 t12 t10 _ ?s1 ?s2 A2.out hG_).mono ?_); (case s1 => repeat (first | exact (Kd.N_reads' P0.out).2.2 | (with_reducible refine Kd.C_alloc ?_ _) | (with_reducible refine Kd.C_drewN ?_ _) | (with_reducible refine Kd.C_drew ?_))); (case s2 => exact (Kd.N_reads' P0.out).2.1); rintro e w1 ⟨v0, rfl, ho0, hb⟩; refine ⟨_, rfl, ?_⟩; have n0_ := Aside0.mk (Kd.N_elder' (hN_ P0.out) (Kd.R_base ho0) hb); have n1_ := Aside0.mk (Kd.R_lower ho0 hS_); have n2_ := Aside0.mk (below_step hB_ hb); clear P0 HB; have P0 := n0_; have P1 := n1_; have HB := n2_; clear n0_ n1_ n2_; (try clear hb); (try clear hb2); (try clear hk); (try clear hi); (try clear ho0)) | ((with_reducible refine gate_callee (f := 10) rfl ?_); refine goesL_ (some 17) rfl rfl Tryd.func10 (by kernel_rfl) rfl #[] rfl hL_ ?_; (with_reducible refine (sleuthlaw13_some.calls  t11 _ A3.out).mono ?_); rintro e w2 ⟨v2, rfl, ho0, hb⟩; refine ⟨_, rfl, ?_⟩; have n0_ := Aside0.mk (Kd.N_elder' (hN_ P0.out) (Kd.N_base ho0) hb); have n1_ := Aside0.mk (Kd.R_below (hR_ P1.out) hb); have n2_ := Aside0.mk (Kd.N_lower (Kd.N_mono (ok' := fun k_ => some k_ ≠ (.slice a0 t17.length o0 : Value).ownBlock ∧ some k_ ≠ (v0 : Value).ownBlock) ho0 (fun k_ hk_ => ⟨(Kd.fresh' (Kd.N_lt (hN_ P0.out)) k_ hk_), (Kd.fresh' (Kd.R_lt (hR_ P1.out)) k_ hk_)⟩)) hS_); have n3_ := Aside0.mk (below_step hB_ hb); clear P0 P1 HB; have P0 := n0_; have P1 := n1_; have P2 := n2_; have HB := n3_; clear n0_ n1_ n2_ n3_; (try clear hb); (try clear hb2); (try clear hk); (try clear hi); (try clear ho0); obtain ⟨a1, o1, e1⟩ := Kd.N_slice P2.out; subst e1) | ((with_reducible refine gate_callee (f := 6) rfl ?_); refine goesL_ (some 18) rfl rfl Tryd.func6 (by kernel_rfl) rfl #[.slice a1 t11.length o1, .int .i64 1] rfl hL_ ?_; (with_reducible refine (tree_Size.calls k _ _ t11 1 t7 t13 _ ?s1 ?s2 A4.out hG_).mono ?_); (case s1 => repeat (first | exact (Kd.N_reads' P2.out).2.2 | (with_reducible refine Kd.C_alloc ?_ _) | (with_reducible refine Kd.C_drewN ?_ _) | (with_reducible refine Kd.C_drew ?_))); (case s2 => exact (Kd.N_reads' P2.out).2.1); rintro e w3 ⟨rfl, hb⟩; refine ⟨_, rfl, ?_⟩; have n0_ := Aside0.mk (Kd.N_below (hN_ P0.out) hb); have n1_ := Aside0.mk (Kd.R_below (hR_ P1.out) hb); have n2_ := Aside0.mk (Kd.N_below (hN_ P2.out) hb); have n3_ := Aside0.mk (below_step hB_ hb); clear P0 P1 P2 HB; have P0 := n0_; have P1 := n1_; have P2 := n2_; have HB := n3_; clear n0_ n1_ n2_ n3_; (try clear hb); (try clear hb2); (try clear hk); (try clear hi)) | ((with_reducible refine gate_callee (f := 10) rfl ?_); refine goesL_ (some 22) rfl rfl Tryd.func10 (by kernel_rfl) rfl #[] rfl hL_ ?_; (with_reducible refine (sleuthlaw13_some.calls  t8 _ A5.out).mono ?_); rintro e w4 ⟨v3, rfl, ho0, hb⟩; refine ⟨_, rfl, ?_⟩; have n0_ := Aside0.mk (Kd.N_elder' (hN_ P0.out) (Kd.N_base ho0) hb); have n1_ := Aside0.mk (Kd.R_below (hR_ P1.out) hb); have n2_ := Aside0.mk (Kd.N_elder' (hN_ P2.out) (Kd.N_base ho0) hb); have n3_ := Aside0.mk (Kd.N_lower (Kd.N_mono (ok' := fun k_ => some k_ ≠ (.slice a0 t17.length o0 : Value).ownBlock ∧ some k_ ≠ (v0 : Value).ownBlock ∧ some k_ ≠ (.slice a1 t11.length o1 : Value).ownBlock) ho0 (fun k_ hk_ => ⟨(Kd.fresh' (Kd.N_lt (hN_ P0.out)) k_ hk_), (Kd.fresh' (Kd.R_lt (hR_ P1.out)) k_ hk_), (Kd.fresh' (Kd.N_lt (hN_ P2.out)) k_ hk_)⟩)) hS_); have n4_ := Aside0.mk (below_step hB_ hb); clear P0 P1 P2 HB; have P0 := n0_; have P1 := n1_; have P2 := n2_; have P3 := n3_; have HB := n4_; clear n0_ n1_ n2_ n3_ n4_; (try clear hb); (try clear hb2); (try clear hk); (try clear hi); (try clear ho0); obtain ⟨a2, o2, e2⟩ := Kd.N_slice P3.out; subst e2) | ((with_reducible refine gate_callee (f := 6) rfl ?_); refine goesL_ (some 23) rfl rfl Tryd.func6 (by kernel_rfl) rfl #[.slice a2 t8.length o2, .int .i64 0] rfl hL_ ?_; (with_reducible refine (tree_Size.calls k _ _ t8 0 t9 t14 _ ?s1 ?s2 A6.out hG_).mono ?_); (case s1 => repeat (first | exact (Kd.N_reads' P3.out).2.2 | (with_reducible refine Kd.C_alloc ?_ _) | (with_reducible refine Kd.C_drewN ?_ _) | (with_reducible refine Kd.C_drew ?_))); (case s2 => exact (Kd.N_reads' P3.out).2.1); rintro e w5 ⟨rfl, hb⟩; refine ⟨_, rfl, ?_⟩; have n0_ := Aside0.mk (Kd.N_below (hN_ P0.out) hb); have n1_ := Aside0.mk (Kd.R_below (hR_ P1.out) hb); have n2_ := Aside0.mk (Kd.N_below (hN_ P2.out) hb); have n3_ := Aside0.mk (Kd.N_below (hN_ P3.out) hb); have n4_ := Aside0.mk (below_step hB_ hb); clear P0 P1 P2 P3 HB; have P0 := n0_; have P1 := n1_; have P2 := n2_; have P3 := n3_; have HB := n4_; clear n0_ n1_ n2_ n3_ n4_; (try clear hb); (try clear hb2); (try clear hk); (try clear hi)) | ((with_reducible refine gate_callee (f := 10) rfl ?_); refine goesL_ (some 27) rfl rfl Tryd.func10 (by kernel_rfl) rfl #[] rfl hL_ ?_; (with_reducible refine (sleuthlaw13_some.calls  t6 _ A7.out).mono ?_); rintro e w6 ⟨v4, rfl, ho0, hb⟩; refine ⟨_, rfl, ?_⟩; have n0_ := Aside0.mk (Kd.N_elder' (hN_ P0.out) (Kd.N_base ho0) hb); have n1_ := Aside0.mk (Kd.R_below (hR_ P1.out) hb); have n2_ := Aside0.mk (Kd.N_elder' (hN_ P2.out) (Kd.N_base ho0) hb); have n3_ := Aside0.mk (Kd.N_elder' (hN_ P3.out) (Kd.N_base ho0) hb); have n4_ := Aside0.mk (Kd.N_lower (Kd.N_mono (ok' := fun k_ => some k_ ≠ (.slice a0 t17.length o0 : Value).ownBlock ∧ some k_ ≠ (v0 : Value).ownBlock ∧ some k_ ≠ (.slice a1 t11.length o1 : Value).ownBlock ∧ some k_ ≠ (.slice a2 t8.length o2 : Value).ownBlock) ho0 (fun k_ hk_ => ⟨(Kd.fresh' (Kd.N_lt (hN_ P0.out)) k_ hk_), (Kd.fresh' (Kd.R_lt (hR_ P1.out)) k_ hk_), (Kd.fresh' (Kd.N_lt (hN_ P2.out)) k_ hk_), (Kd.fresh' (Kd.N_lt (hN_ P3.out)) k_ hk_)⟩)) hS_); have n5_ := Aside0.mk (below_step hB_ hb); clear P0 P1 P2 P3 HB; have P0 := n0_; have P1 := n1_; have P2 := n2_; have P3 := n3_; have P4 := n4_; have HB := n5_; clear n0_ n1_ n2_ n3_ n4_ n5_; (try clear hb); (try clear hb2); (try clear hk); (try clear hi); (try clear ho0); obtain ⟨a3, o3, e3⟩ := Kd.N_slice P4.out; subst e3) | ((with_reducible refine gate_callee (f := 7) rfl ?_); refine goesL_ (some 28) rfl rfl Tryd.func7 (by kernel_rfl) rfl #[.slice a3 t6.length o3, .int .i64 5] rfl hL_ ?_; (with_reducible refine (tree_Kids.calls k _ _ t6 5 t18 t15 _ ?s1 ?s2 A8.out hG_).mono ?_); (case s1 => repeat (first | exact (Kd.N_reads' P4.out).2.2 | (with_reducible refine Kd.C_alloc ?_ _) | (with_reducible refine Kd.C_drewN ?_ _) | (with_reducible refine Kd.C_drew ?_))); (case s2 => exact (Kd.N_reads' P4.out).2.1); rintro e w7 ⟨v5, rfl, ho0, hb⟩; refine ⟨_, rfl, ?_⟩; have n0_ := Aside0.mk (Kd.N_elder' (hN_ P0.out) (Kd.R_base ho0) hb); have n1_ := Aside0.mk (Kd.R_elder' (hR_ P1.out) (Kd.R_base ho0) hb); have n2_ := Aside0.mk (Kd.N_elder' (hN_ P2.out) (Kd.R_base ho0) hb); have n3_ := Aside0.mk (Kd.N_elder' (hN_ P3.out) (Kd.R_base ho0) hb); have n4_ := Aside0.mk (Kd.N_elder' (hN_ P4.out) (Kd.R_base ho0) hb); have n5_ := Aside0.mk (Kd.R_lower (Kd.R_new' ho0 (Kd.R_lt (hR_ P1.out))) hS_); have n6_ := Aside0.mk (below_step hB_ hb); clear P0 P1 P2 P3 P4 HB; have P0 := n0_; have P1 := n1_; have P2 := n2_; have P3 := n3_; have P4 := n4_; have P5 := n5_; have HB := n6_; clear n0_ n1_ n2_ n3_ n4_ n5_ n6_; (try clear hb); (try clear hb2); (try clear hk); (try clear hi); (try clear ho0)) | ((with_reducible refine gate_callee (f := 6) rfl ?_); refine goesL_ (some 32) rfl rfl Tryd.func6 (by kernel_rfl) rfl #[.slice none 0 0, .int .i64 0] rfl hL_ ?_; (refine (tree_Size.calls k _ _ ([] : List (S35)) 0 t19 t16 _ ?s1 ?s2 A9.out hG_).mono ?_); (case s1 => exact Kd.C_nil _ _); (case s2 => exact Nat.le_refl _); rintro e w8 ⟨rfl, hb⟩; refine ⟨_, rfl, ?_⟩; have n0_ := Aside0.mk (Kd.N_below (hN_ P0.out) hb); have n1_ := Aside0.mk (Kd.R_below (hR_ P1.out) hb); have n2_ := Aside0.mk (Kd.N_below (hN_ P2.out) hb); have n3_ := Aside0.mk (Kd.N_below (hN_ P3.out) hb); have n4_ := Aside0.mk (Kd.N_below (hN_ P4.out) hb); have n5_ := Aside0.mk (Kd.R_below (hR_ P5.out) hb); have n6_ := Aside0.mk (below_step hB_ hb); clear P0 P1 P2 P3 P4 P5 HB; have P0 := n0_; have P1 := n1_; have P2 := n2_; have P3 := n3_; have P4 := n4_; have P5 := n5_; have HB := n6_; clear n0_ n1_ n2_ n3_ n4_ n5_ n6_; (try clear hb); (try clear hb2); (try clear hk); (try clear hi)) | ((with_reducible refine gate_dst (N := 36) rfl ?_); refine Kd.R_lit (Kd.int .i64) _ 3 ?hg (N := 36) ?hd (xs := ([1, 2] : List Int)) (inner := [.int .i64 1, .int .i64 2]) (ok := fun _ => True) (okp := fun _ => True) ?hr ?hp (fun _ hk => hk) trivial (Below.refl _ _) (Nat.le_refl _) (by simp) ?_; (case hd => rfl); (case hg => rfl); (case hr => first | (go_simp; done) | (go_simp; rfl)); (case hp => exact (Reps.one (show Kd.M (Kd.int .i64) _ _ _ 1 [.int .i64 1] from rfl) (Reps.one (show Kd.M (Kd.int .i64) _ _ _ 2 [.int .i64 2] from rfl) (Reps.none _ _)))); intro v6 w9 ho37 hb hg_ hnew_; clear hg_ hnew_; (first | rw [← Y0.out] at ho37 | (simp only [Int.reduceToNat] at ho37; rw [← Y0.out] at ho37)); have n0_ := Aside0.mk (Kd.N_elder' (hN_ P0.out) (Kd.R_base ho37) hb); have n1_ := Aside0.mk (Kd.R_elder' (hR_ P1.out) (Kd.R_base ho37) hb); have n2_ := Aside0.mk (Kd.N_elder' (hN_ P2.out) (Kd.R_base ho37) hb); have n3_ := Aside0.mk (Kd.N_elder' (hN_ P3.out) (Kd.R_base ho37) hb); have n4_ := Aside0.mk (Kd.N_elder' (hN_ P4.out) (Kd.R_base ho37) hb); have n5_ := Aside0.mk (Kd.R_elder' (hR_ P5.out) (Kd.R_base ho37) hb); have n6_ := Aside0.mk (Kd.R_lower (Kd.R_new' (Kd.R_new' ho37 (Kd.R_lt (hR_ P1.out))) (Kd.R_lt (hR_ P5.out))) hS_); have n7_ := Aside0.mk (below_step hB_ hb); clear P0 P1 P2 P3 P4 P5 HB; have P0 := n0_; have P1 := n1_; have P2 := n2_; have P3 := n3_; have P4 := n4_; have P5 := n5_; have P6 := n6_; have HB := n7_; clear n0_ n1_ n2_ n3_ n4_ n5_ n6_ n7_; clear hb ho37; obtain ⟨a4, o4, e4⟩ := Kd.R_slice P1.out; subst e4; obtain ⟨a5, o5, e5⟩ := Kd.R_slice P6.out; subst e5) | ((with_reducible refine gate_callee (f := 11) rfl ?_); refine goesL_ _ rfl rfl Tryd.func11 (by kernel_rfl) rfl #[.slice a4 t12.length o4, .slice a5 y0.length o5] rfl hL_ ?_; (with_reducible refine (sleuthlaw0_SameInts.calls k _ _ t12 _ _ y0 true _ ?s1 ?s2 ?s3 ?s4 A10.out).mono ?_); (case s1 => exact cC_ (Kd.R_reads' P1.out).2.2); (case s2 => exact (Kd.R_reads' P1.out).2.1); (case s3 => exact cC_ (Kd.R_reads' P6.out).2.2); (case s4 => exact (Kd.R_reads' P6.out).2.1); rintro e w' ⟨rfl, ⟨nd, rfl⟩⟩; refine ⟨_, rfl, ?_⟩) | (go_at_call 8; (with_reducible refine (sleuthlaw0_Num.calls t10 t4 _ A12.out).mono ?_); rintro e w' ⟨rfl, ⟨nd, rfl⟩⟩) | (go_at_call 8; (with_reducible refine (sleuthlaw0_Num.calls t13 t3 _ A15.out).mono ?_); rintro e w' ⟨rfl, ⟨nd, rfl⟩⟩) | (go_at_call 8; (with_reducible refine (sleuthlaw0_Num.calls t14 t1 _ A18.out).mono ?_); rintro e w' ⟨rfl, ⟨nd, rfl⟩⟩) | (go_at_call 8; (with_reducible refine (sleuthlaw0_Num.calls t15 t0 _ A20.out).mono ?_); rintro e w' ⟨rfl, ⟨nd, rfl⟩⟩) | (go_at_call 8; (with_reducible refine (sleuthlaw0_Num.calls t16 t2 _ A22.out).mono ?_); rintro e w' ⟨rfl, ⟨nd, rfl⟩⟩))
  go_ret
  exact ⟨hV_, hC_⟩
def sleuthref12_upTo.f (a0 : Int) (a1 : Int) (a2 : Int) : Option (Bool) := if a0 ≥ a1 then (some (decide (a0 ≤ a2))) else (some false)
set_option maxHeartbeats 8000000 in
set_option maxRecDepth 100000 in
theorem sleuthref12_upTo.calls (a0 : Int) (a1 : Int) (a2 : Int) (r : Bool) (w : World) (h : sleuthref12_upTo.f a0 a1 a2 = some r) :
    Calls Tryd.prog 22 #[.int .i64 a0, .int .i64 a1, .int .i64 a2] w fun e w' => e = .returned (.bool r) ∧ Drawn0 w w' := by
  have H : (if a0 ≥ a1 then (some (decide (a0 ≤ a2))) else (some false)) = some r := h
  clear h
  by_cases c4 : a0 ≥ a1
  case pos =>
    rw [if_pos c4] at H
    have c4b0 : decide (a1 ≤ a0) = true := decide_eq_true c4
    clear c4
    obtain rfl := Option.some.inj H
    go_enter Tryd.func22, Tryd.ntmps22
    go_wp2
    go_ret
    exact ⟨by first | rfl | (simp; done) | (simp [*]; done), by repeat (first | exact Drawn0.refl _ | apply Drawn0.step)⟩
  rw [if_neg c4] at H
  have c4b0 : decide (a1 ≤ a0) = false := decide_eq_false c4
  clear c4
  obtain rfl := Option.some.inj H
  go_enter Tryd.func22, Tryd.ntmps22
  go_wp2
  go_ret
  exact ⟨by first | rfl | (simp; done) | (simp [*]; done), by repeat (first | exact Drawn0.refl _ | apply Drawn0.step)⟩

def sleuthref1_bad.f  : Option (Int × Int × List ByteArray × Int) := some (0, 0, ([] : List ByteArray), (-1))
set_option maxHeartbeats 8000000 in
set_option maxRecDepth 100000 in
theorem sleuthref1_bad.calls  (r1 : Int) (r2 : Int) (r3 : List ByteArray) (r4 : Int) (w : World) (h : sleuthref1_bad.f  = some (r1, r2, r3, r4)) :
    Calls Tryd.prog 31 #[] w fun e w' => ∃ v2_ : Value, e = .returned (.agg #[.int .i64 r1, .int .i64 r2, v2_, .int .i64 r4]) ∧ Kd.R Kd.string 9 w' w.heap.size (fun _ => True) v2_ r3 ∧ Below w.heap.size w w' := by
  have hu59 := Tryd.underlying59
  have HB := Aside0.mk (Below.refl w.heap.size w)
  have H : (some (0, 0, ([] : List ByteArray), (-1))) = some (r1, r2, r3, r4) := h
  clear h
  simp only [Option.some.injEq, Prod.mk.injEq] at H
  obtain ⟨rfl, rfl, rfl, rfl⟩ := H
  go_enter Tryd.func31, Tryd.ntmps31
  go_wp2_with (first | ((with_reducible refine gate_dst (N := 0) rfl ?_); refine boxE_ 0 #[.int .i64 0, .int .i64 0, .slice none 0 0, .int .i64 0] 59 ?_; intro g0 hg w1 hbox hb; have n0_ := Aside0.mk (below_step hB_ hb); have n1_ := Aside0.mk (hbox); have n2_ := Aside0.mk ((gE_ hg : w.heap.size ≤ g0)); have n3_ := Aside0.mk ((gE_ hg : w.heap.size ≤ g0)); clear HB; have HB := n0_; have B0 := n1_; have W0 := n2_; have E0 := n3_; clear n0_ n1_ n2_ n3_; clear hb hbox hg; obtain ⟨z0, z1, z2, z3, f0, f1, f2, f3⟩ := bx4_ B0.out))
  refine bodyPost_ret (results_cell_row rfl _ _ g0 59 #[.int .i64 0, .int .i64 0, .slice none 0 0, .int .i64 (-1)] (0, 0) _ rfl (bP_ (bP_ (bP_ (bP_ (hK_ B0.out))))) Tryd.underlying59 rfl (by kernel_rfl)) rfl ?_
  exact ⟨_, hV_, by first | exact Kd.R_nil _ _ _ _ _ | exact Kd.N_nil _ _ _ _ _ | exact Kd.V_nil _ _ _ _ _ | exact Kd.Q_nil _ _ _ _ _ | exact Kd.S_nil _ _ _ _ _, hC_⟩

def sleuthref1_digits.l0 : Nat → ByteArray → Int → Int → Option (Int × Int)
  | 0, _, _, _ => none
  | k + 1, x0, x4, x5 => if x5 < (x0.size : Int) then (if x5 < 6 then (if 0 ≤ x5 then (if (bt x0 x5) ≥ 48 then (if (bt x0 x5) ≤ 57 then (if x5 = 0 then (sleuthref1_digits.l0 k x0 (wrap64 ((wrap64 (10 * x4)) + (((bt x0 x5) - 48) % 256))) (wrap64 (x5 + 1))) else (if 0 < (x0.size : Int) then (if (bt x0 0) = 48 then (some (x4, x5)) else (sleuthref1_digits.l0 k x0 (wrap64 ((wrap64 (10 * x4)) + (((bt x0 x5) - 48) % 256))) (wrap64 (x5 + 1)))) else (none))) else (some (x4, x5))) else (some (x4, x5))) else (none)) else (some (x4, x5))) else (some (x4, x5))
def sleuthref1_digits.f (k : Nat) (a0 : ByteArray) : Option (Int × Int) := sleuthref1_digits.l0 k a0 0 0
set_option maxHeartbeats 8000000 in
set_option maxRecDepth 100000 in
theorem sleuthref1_digits.calls (k : Nat) (a0 : ByteArray) (r1 : Int) (r2 : Int) (w : World) (h : sleuthref1_digits.f k a0 = some (r1, r2)) :
    Calls Tryd.prog 32 #[.string a0] w fun e w' => e = .returned (.tuple #[.int .i64 r1, .int .i64 r2]) ∧ Drawn0 w w' := by
  have H : (sleuthref1_digits.l0 k a0 0 0) = some (r1, r2) := h
  clear h
  have H' := Aside0.mk H
  clear H
  go_enter Tryd.func32, Tryd.ntmps32
  go_wp2
  go_loopg [4, 5] k (fun kq v4 v5 w' => ∃ (x1 : Int) (x0 : Int), v4 = .int .i64 x1 ∧ v5 = .int .i64 x0 ∧ Aside0 (sleuthref1_digits.l0 kq a0 x1 x0 = some (r1, r2)) ∧ Aside0 (kq ≤ k) ∧ Drawn0 w w')
  case atStart => exact ⟨(0), (0), hW_, hW_, H', ⟨Nat.le_refl _⟩, by repeat (first | exact Drawn0.refl _ | apply Drawn0.step)⟩
  case round =>
    clear H'
    obtain ⟨x1, x0, rfl, rfl, HA, HK1, ⟨m1, rfl⟩⟩ := hrel
    cases gk with
    | zero => exact absurd HA.out (by simp [sleuthref1_digits.l0])
    | succ k1 =>
      have H := HA.out
      clear HA
      simp only [sleuthref1_digits.l0] at H
      by_cases c2 : x0 < (a0.size : Int)
      case neg =>
        rw [if_neg c2] at H
        have c2b0 : decide (x0 < (a0.size : Int)) = false := decide_eq_false c2
        clear c2
        simp only [Option.some.injEq, Prod.mk.injEq] at H
        obtain ⟨rfl, rfl⟩ := H
        go_wp2
        go_ret2
        exact ⟨by first | rfl | (simp; done) | (simp [*]; done), by repeat (first | exact Drawn0.refl _ | apply Drawn0.step)⟩

      rw [if_pos c2] at H
      have c2b0 : decide (x0 < (a0.size : Int)) = true := decide_eq_true c2
      clear c2
      by_cases c3 : x0 < 6
      case neg =>
        rw [if_neg c3] at H
        have c3b0 : decide (x0 < 6) = false := decide_eq_false c3
        clear c3
        simp only [Option.some.injEq, Prod.mk.injEq] at H
        obtain ⟨rfl, rfl⟩ := H
        go_wp2
        go_ret2
        exact ⟨by first | rfl | (simp; done) | (simp [*]; done), by repeat (first | exact Drawn0.refl _ | apply Drawn0.step)⟩
      rw [if_pos c3] at H
      have c3b0 : decide (x0 < 6) = true := decide_eq_true c3
      clear c3
      replace H := ifI_ H; obtain ⟨c4, H⟩ := H
      have c4b0 : decide (0 ≤ x0) = true := decide_eq_true c4
      clear c4
      by_cases c6 : (bt a0 x0) ≥ 48
      case neg =>
        rw [if_neg c6] at H
        have c6b0 : decide (48 ≤ (bt a0 x0)) = false := decide_eq_false c6
        clear c6
        simp only [Option.some.injEq, Prod.mk.injEq] at H
        obtain ⟨rfl, rfl⟩ := H
        have p5 : 0 ≤ (x0 : Int) := of_decide_eq_true hA_
        have q5 : x0 < (a0.size : Int) := of_decide_eq_true hA_
        have h0 := bt_at a0 x0
        replace p5 := eq_true p5
        replace q5 := eq_true q5
        go_wp2
        go_ret2
        exact ⟨by first | rfl | (simp; done) | (simp [*]; done), by repeat (first | exact Drawn0.refl _ | apply Drawn0.step)⟩
      rw [if_pos c6] at H
      have c6b0 : decide (48 ≤ (bt a0 x0)) = true := decide_eq_true c6
      clear c6
      by_cases c8 : (bt a0 x0) ≤ 57
      case neg =>
        rw [if_neg c8] at H
        have c8b0 : decide ((bt a0 x0) ≤ 57) = false := decide_eq_false c8
        clear c8
        simp only [Option.some.injEq, Prod.mk.injEq] at H
        obtain ⟨rfl, rfl⟩ := H
        have p5 : 0 ≤ (x0 : Int) := of_decide_eq_true hA_
        have q5 : x0 < (a0.size : Int) := of_decide_eq_true hA_
        have h0 := bt_at a0 x0
        replace p5 := eq_true p5
        replace q5 := eq_true q5
        have p7 : 0 ≤ (x0 : Int) := of_decide_eq_true hA_
        have q7 : x0 < (a0.size : Int) := of_decide_eq_true hA_
        have h1 := bt_at a0 x0
        replace p7 := eq_true p7
        replace q7 := eq_true q7
        go_wp2
        go_ret2
        exact ⟨by first | rfl | (simp; done) | (simp [*]; done), by repeat (first | exact Drawn0.refl _ | apply Drawn0.step)⟩
      rw [if_pos c8] at H
      have c8b0 : decide ((bt a0 x0) ≤ 57) = true := decide_eq_true c8
      clear c8
      by_cases c9 : x0 = 0
      case pos =>
        rw [if_pos c9] at H
        have c9b0 : (x0 == 0) = true := beq_iff_eq.mpr c9
        have c9b1 : (x0 != 0) = false := bne_eq_false_iff_eq.mpr c9
        clear c9
        have H' := Aside0.mk H
        clear H
        have p5 : 0 ≤ (x0 : Int) := of_decide_eq_true hA_
        have q5 : x0 < (a0.size : Int) := of_decide_eq_true hA_
        have h0 := bt_at a0 x0
        replace p5 := eq_true p5
        replace q5 := eq_true q5
        have p7 : 0 ≤ (x0 : Int) := of_decide_eq_true hA_
        have q7 : x0 < (a0.size : Int) := of_decide_eq_true hA_
        have h1 := bt_at a0 x0
        replace p7 := eq_true p7
        replace q7 := eq_true q7
        have p10 : 0 ≤ (x0 : Int) := of_decide_eq_true hA_
        have q10 : x0 < (a0.size : Int) := of_decide_eq_true hA_
        have h3 := bt_at a0 x0
        replace p10 := eq_true p10
        replace q10 := eq_true q10
        go_wp2
        go_roundg k1
        case measure => have := HK1.out; omega
        case rel => exact ⟨(wrap64 ((wrap64 (10 * x1)) + (((bt a0 x0) - 48) % 256))), (wrap64 (x0 + 1)), hW_, hW_, H', ⟨by have := HK1.out; omega⟩, by repeat (first | exact Drawn0.refl _ | apply Drawn0.step)⟩
      rw [if_neg c9] at H
      have c9b0 : (x0 == 0) = false := beq_eq_false_iff_ne.mpr c9
      have c9b1 : (x0 != 0) = true := bne_iff_ne.mpr c9
      replace H := ifI_ H; obtain ⟨c11, H⟩ := H
      have c11b0 : decide (0 < (a0.size : Int)) = true := decide_eq_true c11
      have c11b1 : decide (0 < a0.size) = true := decide_eq_true (by omega)
      clear c11
      by_cases c13 : (bt a0 0) = 48
      case pos =>
        rw [if_pos c13] at H
        have c13b0 : ((bt a0 0) == 48) = true := beq_iff_eq.mpr c13
        have c13b1 : ((bt a0 0) != 48) = false := bne_eq_false_iff_eq.mpr c13
        clear c13
        simp only [Option.some.injEq, Prod.mk.injEq] at H
        obtain ⟨rfl, rfl⟩ := H
        have p5 : 0 ≤ (x0 : Int) := of_decide_eq_true hA_
        have q5 : x0 < (a0.size : Int) := of_decide_eq_true hA_
        have h0 := bt_at a0 x0
        replace p5 := eq_true p5
        replace q5 := eq_true q5
        have p7 : 0 ≤ (x0 : Int) := of_decide_eq_true hA_
        have q7 : x0 < (a0.size : Int) := of_decide_eq_true hA_
        have h1 := bt_at a0 x0
        replace p7 := eq_true p7
        replace q7 := eq_true q7
        have p12 : 0 ≤ (0 : Int) := (by omega)
        have q12 : 0 < a0.size := (by have : (0 : Int) < (a0.size : Int) := of_decide_eq_true hA_; omega)
        have h2 : ∀ h : 0 < a0.size, ((a0[0]'h).toNat : Int) = bt a0 0 := bt_at a0 0
        clear p12
        have qi12 : (0 < (a0.size : Int)) = True := eq_true (of_decide_eq_true hA_)
        replace q12 := eq_true q12
        go_wp2
        go_ret2
        exact ⟨by first | rfl | (simp; done) | (simp [*]; done), by repeat (first | exact Drawn0.refl _ | apply Drawn0.step)⟩
      rw [if_neg c13] at H
      have c13b0 : ((bt a0 0) == 48) = false := beq_eq_false_iff_ne.mpr c13
      have c13b1 : ((bt a0 0) != 48) = true := bne_iff_ne.mpr c13
      have H' := Aside0.mk H
      clear H
      have p5 : 0 ≤ (x0 : Int) := of_decide_eq_true hA_
      have q5 : x0 < (a0.size : Int) := of_decide_eq_true hA_
      have h0 := bt_at a0 x0
      replace p5 := eq_true p5
      replace q5 := eq_true q5
      have p7 : 0 ≤ (x0 : Int) := of_decide_eq_true hA_
      have q7 : x0 < (a0.size : Int) := of_decide_eq_true hA_
      have h1 := bt_at a0 x0
      replace p7 := eq_true p7
      replace q7 := eq_true q7
      have p12 : 0 ≤ (0 : Int) := (by omega)
      have q12 : 0 < a0.size := (by have : (0 : Int) < (a0.size : Int) := of_decide_eq_true hA_; omega)
      have h2 : ∀ h : 0 < a0.size, ((a0[0]'h).toNat : Int) = bt a0 0 := bt_at a0 0
      clear p12
      have qi12 : (0 < (a0.size : Int)) = True := eq_true (of_decide_eq_true hA_)
      replace q12 := eq_true q12
      have p14 : 0 ≤ (x0 : Int) := of_decide_eq_true hA_
      have q14 : x0 < (a0.size : Int) := of_decide_eq_true hA_
      have h4 := bt_at a0 x0
      replace p14 := eq_true p14
      replace q14 := eq_true q14
      go_wp2
      go_roundg k1
      case measure => have := HK1.out; omega
      case rel => exact ⟨(wrap64 ((wrap64 (10 * x1)) + (((bt a0 x0) - 48) % 256))), (wrap64 (x0 + 1)), hW_, hW_, H', ⟨by have := HK1.out; omega⟩, by repeat (first | exact Drawn0.refl _ | apply Drawn0.step)⟩
-- (function 33, sleuthref1_parts: with its fellows)

def sleuthref1_upTo.f (a0 : Int) (a1 : Int) (a2 : Int) : Option (Bool) := if a0 ≥ a1 then (some (decide (a0 ≤ a2))) else (some false)
set_option maxHeartbeats 8000000 in
set_option maxRecDepth 100000 in
theorem sleuthref1_upTo.calls (a0 : Int) (a1 : Int) (a2 : Int) (r : Bool) (w : World) (h : sleuthref1_upTo.f a0 a1 a2 = some r) :
    Calls Tryd.prog 40 #[.int .i64 a0, .int .i64 a1, .int .i64 a2] w fun e w' => e = .returned (.bool r) ∧ Drawn0 w w' := by
  have H : (if a0 ≥ a1 then (some (decide (a0 ≤ a2))) else (some false)) = some r := h
  clear h
  by_cases c4 : a0 ≥ a1
  case pos =>
    rw [if_pos c4] at H
    have c4b0 : decide (a1 ≤ a0) = true := decide_eq_true c4
    clear c4
    obtain rfl := Option.some.inj H
    go_enter Tryd.func40, Tryd.ntmps40
    go_wp2
    go_ret
    exact ⟨by first | rfl | (simp; done) | (simp [*]; done), by repeat (first | exact Drawn0.refl _ | apply Drawn0.step)⟩
  rw [if_neg c4] at H
  have c4b0 : decide (a1 ≤ a0) = false := decide_eq_false c4
  clear c4
  obtain rfl := Option.some.inj H
  go_enter Tryd.func40, Tryd.ntmps40
  go_wp2
  go_ret
  exact ⟨by first | rfl | (simp; done) | (simp [*]; done), by repeat (first | exact Drawn0.refl _ | apply Drawn0.step)⟩

def sleuthref1_NumMay.f (a0 : Int) : Option (Bool) := (sleuthref1_upTo.f a0 (-32768) 32767).bind fun t218 => (some t218)
set_option maxHeartbeats 8000000 in
set_option maxRecDepth 100000 in
theorem sleuthref1_NumMay.calls (a0 : Int) (r : Bool) (w : World) (h : sleuthref1_NumMay.f a0 = some r) :
    Calls Tryd.prog 34 #[.int .i64 a0] w fun e w' => e = .returned (.bool r) ∧ Drawn0 w w' := by
  have H : ((sleuthref1_upTo.f a0 (-32768) 32767).bind fun t0 => (some t0)) = some r := h
  clear h
  replace H := Option.bind_eq_some_iff.mp H
  obtain ⟨t0, A20, H⟩ := H
  replace H : (some t0) = some r := H
  have A2 := Aside0.mk A20
  clear A20
  obtain rfl := Option.some.inj H
  go_enter Tryd.func34, Tryd.ntmps34
  go_wp2_with (first | ((with_reducible refine gate_callee (f := 40) rfl ?_); refine goesL_ _ rfl rfl Tryd.func40 (by kernel_rfl) rfl #[.int .i64 a0, .int .i64 (-32768), .int .i64 32767] rfl hL_ ?_; (with_reducible refine (sleuthref1_upTo.calls a0 (-32768) 32767 t0 _ A2.out).mono ?_); rintro e w' ⟨rfl, ⟨nd, rfl⟩⟩; refine ⟨_, rfl, ?_⟩))
  go_ret
  exact ⟨by first | rfl | (simp; done) | (simp [*]; done), by repeat (first | exact Drawn0.refl _ | apply Drawn0.step)⟩

end Go.Proofs.YtjodjfbhaojhjaaDoor.G
end
