/- Parts of this proof, one behind the other: G25, G26, G27, G28, G29, G30, G31, G33, G34, G35. -/
import Derived.Test.YtgokcaccamfgfaaGreatDoorU2
import Derived.Test.YtgokcaccamfgfaaGreatDoorG0
import Derived.Test.YtgokcaccamfgfaaGreatDoorU7
section
-- Laid by the session's own driver gp.py over the kit's printer. Not trusted: Lean checks it.
namespace Go.Proofs.YtgokcaccamfgfaaGreatDoor.G
open Go.RowKit Go.Proofs.YtgokcaccamfgfaaGreatDoorW.PrintWords Go.Proofs.YtgokcaccamfgfaaGreatDoorW.PrintLast Go.Proofs.YtgokcaccamfgfaaGreatDoorW.PrintMore
set_option maxHeartbeats 8000000
set_option maxRecDepth 100000
attribute [local go_sem] max2_int min2_int max_two min_two max_three min_three max_four min_four   -- for this text's walks alone
set_option linter.unusedVariables false
set_option linter.unusedSimpArgs false

/-- a node's kids among those ahead of place i -/
def kidsTo (ns : List S64) (a : Int) : Nat → List Int
 | 0 => []
 | i + 1 => if a < (i : Int) ∧ (rd_T64 ns (i : Int)).f1 = a then kidsTo ns a i ++ [(i : Int)] else kidsTo ns a i
theorem kidsTo_pre (ns : List S64) (a : Int) : ∀ {i j : Nat}, i ≤ j → kidsTo ns a i <+: kidsTo ns a j := by
 intro i j h
 induction h with
 | refl => exact List.prefix_refl _
 | step _ ih =>
  rw [kidsTo]
  split
  · exact ih.trans (List.prefix_append _ _)
  · exact ih
theorem kidsTo_none (ns : List S64) (a : Int) : ∀ (i : Nat), (i : Int) ≤ a + 1 → kidsTo ns a i = []
 | 0, _ => rfl
 | i + 1, h => by rw [kidsTo, if_neg (by omega), kidsTo_none ns a i (by omega)]
theorem kidsTo_len (ns : List S64) (a : Int) : ∀ (i : Nat), (kidsTo ns a i).length ≤ i
 | 0 => Nat.le_refl _
 | i + 1 => by
  have := kidsTo_len ns a i
  rw [kidsTo]
  split <;> simp <;> omega

section
attribute [local go_sem] Oper.semAt_some
theorem tree_Below_1.in_ (n : Nat) (hn : 1 ≤ n) (l Bn Ba n₁ N : Nat) (A0 : Option Addr) (c0 : Nat) (l0 : List S64) (a1 : Int) (ha0 : 0 ≤ a1) (ha1 : a1 < (l0.length : Int)) (hlen : l0.length ≤ 9223372036854775806) (w : World) (hC : Kd.C k64 w A0 l0.length l0)
 (hN : ∀ i, i < l0.length → (kidsTo l0 a1 i).length < N) (J Jx : List Int → World → Prop) (hJd : ∀ s W n, J s W → J s (W.drewN n))
 (hY : ∀ pre x W, J pre W → pre.length < N → (0 ≤ x ∧ x < (l0.length : Int)) → YieldAt Fence.wide (n - 1) Tryz.prog l #[.int .i64 x] W fun e W' =>
  (e = .returned (.bool true) ∧ J (pre ++ [x]) W' ∧ Below n₁ W W') ∨ (e = .returned (.bool false) ∧ Jx (pre ++ [x]) W'))
 (W : World) (hB : Below w.heap.size w W) (hw : w.heap.size ≤ n₁) (hBn : W.cell? ⟨Bn, 0, none⟩ = some (.slice A0 l0.length c0)) (hBa : W.cell? ⟨Ba, 0, none⟩ = some (.int .i64 a1)) (hbn : Bn < n₁) (hba : Ba < n₁) (h0 : J [] W) :
 CallsIn Fence.wide n Tryz.prog 73 #[.func (.yield l) #[] #[], .pointer (some ⟨Ba, 0, none⟩), .pointer (some ⟨Bn, 0, none⟩)] W fun e W' => (∃ v, e = .returned v) ∧
  ((∃ ys, ys = kidsTo l0 a1 l0.length ∧ J ys W') ∨ (∃ pre, pre <+: kidsTo l0 a1 l0.length ∧ Jx pre W')) := by
 refine callsIn_of_wp Tryz.func73 rfl trivial ?_ rfl
 simp only [Tryz.ntmps73, List.size_toArray, List.length_cons, List.length_nil, Nat.reduceAdd, Nat.reduceSub, Array.replicate_succ, Array.replicate_zero, List.push_toArray, List.append_toArray, List.nil_append, List.cons_append]
 gi_wp2
 gi_loopw [4] (fun i wr => ∃ x : Int, i = .int .i64 x ∧ Aside0 (a1 < x ∧ x ≤ (l0.length : Int)) ∧ Aside0 (J (kidsTo l0 a1 x.toNat) wr ∧ Below n₁ W wr))
  (fun i _ => l0.length - (intOf i).toNat)
 case atStart => exact ⟨a1 + 1, by first | rfl | (congr 1; omega) | (simp; omega), ⟨by omega, by omega⟩, ⟨by rw [kidsTo_none _ _ _ (by omega)]; exact h0, Below.refl _ _⟩⟩
 case round =>
  obtain ⟨x, rfl, HX, HJ⟩ := hrel
  have hcn := (HJ.out.2.cell (p := ⟨Bn, 0, none⟩) hbn).trans hBn
  have hca := (HJ.out.2.cell (p := ⟨Ba, 0, none⟩) hba).trans hBa
  by_cases hlt : x < (l0.length : Int)
  case neg =>
   have hltb := decide_eq_false hlt
   have hxl : x.toNat = l0.length := by have := HX.out; omega
   have HX2 := a_ hxl
   clear hxl hlt
   gi_wp2
   go_end0
   exact ⟨⟨_, rfl⟩, .inl ⟨_, rfl, by rw [← HX2.out]; exact HJ.out.1⟩⟩
  have hx0 : 0 ≤ x := by have := HX.out; omega
  obtain ⟨ad, A2, c2, e0, g0, g1, g2, g3, hl2, hi2⟩ := at_T64 hC x hx0 hlt
  cases e0
  have hbw : Below w.heap.size w wr := hB.trans (HJ.out.2.mono hw)
  have hp := (hbw.cell (World.block_lt_of_cell? w _ g1)).trans g1
  clear g0 g1 g2 g3 hl2 hi2
  have hxt : (x + 1).toNat = x.toNat + 1 := by omega
  have hxe : ((x.toNat : Nat) : Int) = x := by omega
  have hw1 : IntKind.i64.wrap (x + 1) = x + 1 := IntWalk.i64_in _ (by omega)
  have hw2 := a_ hw1
  clear hw1
  have hlt0 := a_ (And.intro hlt (And.intro hxt hxe))
  clear hxt hxe
  have hltb := decide_eq_true hlt
  replace hlt := eq_true hlt
  replace hx0 := eq_true hx0
  have hmix : Tryz.prog.follows .mixedOrders = true := by kernel_rfl
  by_cases hpar : (rd_T64 l0 x).f1 = a1
  case neg =>
   have hparb : ((rd_T64 l0 x).f1 == a1) = false := beq_eq_false_iff_ne.2 hpar
   have hkid : kidsTo l0 a1 (x.toNat + 1) = kidsTo l0 a1 x.toNat := by rw [kidsTo, hlt0.out.2.2, if_neg (fun h => hpar h.2)]
   have HK := a_ hkid
   clear hkid hpar
   have HY := a_ (And.intro hY hJd)
   clear hY hJd
   clear hN hBa hBn hC h0
   gi_wp2
   refine wpIn_mono (Q := fun e a w' => e = .normal ∧ ∃ (t7 t8 t9 t10 t11 t12 t13 t14 t15 t16 t17 t18 t19 t20 t21 t22 t23 t24 : Value), a = { tmps := #[.func (.yield l) #[] #[], .pointer (some ⟨Ba, 0, none⟩), .pointer (some ⟨Bn, 0, none⟩), undef, .int .i64 x, .int .i64 a1, .int .i64 (a1 + 1), t7, t8, t9, t10, t11, t12, t13, t14, t15, t16, t17, t18, t19, t20, t21, t22, t23, t24, .bool false], defers := [] } ∧ ∃ nq, w' = wr.drewN nq) ?reg ?post
   case reg =>
    clear HY HK HX HJ hlt0 hw2 hbw hB hw
    refine wpIn_region_quiet_lit rfl hmix (by kernel_rfl) ?_
    iterate 10 (quiet_step_in (fail))
    refine BigFrame.wpQuietIn_skip (fun _ _ _ _ => trivial) (by first | rfl | kernel_rfl | simp [Region.wanted, yielded]) ?_
    simp only [Act.put, List.setIfInBounds_toArray, List.set_cons_succ, List.set_cons_zero]
    iterate 2 (quiet_step_in (fail))
    refine wpQuietIn_nil ?_
    intro _ hw'
    obtain ⟨nq, hw''⟩ := hw'
    subst hw''
    exact ⟨trivial, _, _, _, _, _, _, _, _, _, _, _, _, _, _, _, _, _, _, rfl, _, rfl⟩
   case post =>
    rintro e a W3 ⟨rfl, t7, t8, t9, t10, t11, t12, t13, t14, t15, t16, t17, t18, t19, t20, t21, t22, t23, t24, rfl, nq, rfl⟩
    clear hparb hp
    gi_wp2
    refine ⟨⟨x + 1, by rw [show wrap64 (x + 1) = x + 1 from by have := HX.out; have := hlt0.out.1; unfold wrap64; omega], ⟨by have := HX.out; omega, by have := hlt0.out.1; omega⟩, ⟨by rw [hlt0.out.2.1, HK.out]; exact HY.out.2 _ _ nq HJ.out.1, below_dn HJ.out.2 nq⟩⟩, ?_⟩
    rw [show wrap64 (x + 1) = x + 1 from by have := HX.out; have := hlt0.out.1; unfold wrap64; omega]
    have := HX.out
    have := hlt0.out.1
    simp only [intOf]
    omega
  have hparb : ((rd_T64 l0 x).f1 == a1) = true := beq_iff_eq.2 hpar
  have hkid : kidsTo l0 a1 (x.toNat + 1) = kidsTo l0 a1 x.toNat ++ [x] := by rw [kidsTo, hlt0.out.2.2, if_pos ⟨HX.out.1, hpar⟩]
  have HK := a_ hkid
  clear hkid hpar
  have HY := a_ (fun nq => hY _ x (wr.drewN nq) (hJd _ _ nq HJ.out.1) (hN x.toNat (by have := hlt0.out.1; omega)) ⟨by have := HX.out; omega, hlt0.out.1⟩)
  clear hY hJd hN hBa hBn hC h0
  gi_wp2
  refine wpIn_mono (Q := fun e a w' => e = .normal ∧ ∃ (b : Bool) (t7 t8 t9 t10 t11 t12 t13 t14 t15 t16 t17 t18 t19 t20 t21 t22 t23 t24 : Value), a = { tmps := #[.func (.yield l) #[] #[], .pointer (some ⟨Ba, 0, none⟩), .pointer (some ⟨Bn, 0, none⟩), undef, .int .i64 x, .int .i64 a1, .int .i64 (a1 + 1), t7, t8, t9, t10, t11, t12, t13, t14, t15, t16, t17, t18, t19, t20, t21, t22, t23, t24, .bool (!b)], defers := [] } ∧ Aside0 ((b = true ∧ J (kidsTo l0 a1 x.toNat ++ [x]) w' ∧ Below n₁ wr w') ∨ (b = false ∧ Jx (kidsTo l0 a1 x.toNat ++ [x]) w'))) ?reg ?post
  case reg =>
   clear HK HX HJ hlt0 hw2 hbw hB hw
   refine wpIn_region_head 10 rfl hmix (by kernel_rfl) ?_
   simp only [List.take_succ_cons, List.take_zero, List.drop_succ_cons, List.drop_zero]
   iterate 10 (quiet_step_in (fail))
   refine wpQuietIn_nil ?_
   intro _ hw'
   obtain ⟨nq, hw''⟩ := hw'
   subst hw''
   obtain ⟨fn, tmps, assign, body, hy, hR⟩ := HY.out nq
   clear HY
   have HR : RoundIn Fence.wide (n - 1) Tryz.prog l fn tmps assign body (wr.drewN nq) (fun e W' => ∃ b, e = .returned (.bool b) ∧ Aside0 ((b = true ∧ J (kidsTo l0 a1 x.toNat ++ [x]) W' ∧ Below n₁ wr W') ∨ (b = false ∧ Jx (kidsTo l0 a1 x.toNat ++ [x]) W'))) := hR.mono fun e W' hh => by
    rcases hh with ⟨rfl, h1, h2⟩ | ⟨rfl, h1⟩
    · exact ⟨true, rfl, ⟨.inl ⟨rfl, h1, (below_dn (Below.refl _ _) nq).trans h2⟩⟩⟩
    · exact ⟨false, rfl, ⟨.inr ⟨rfl, h1⟩⟩⟩
   clear hR
   gi_wp2
   refine HR.mono ?_
   rintro e W3 ⟨b, rfl, HQ⟩
   gi_wp2
  case post =>
   rintro e a W3 ⟨rfl, b, t7, t8, t9, t10, t11, t12, t13, t14, t15, t16, t17, t18, t19, t20, t21, t22, t23, t24, rfl, HQ⟩
   clear HY hparb hp
   cases b
   · gi_wp2
     refine bodyPost_ret (results_none rfl _ _ _) rfl ?_
     have hq := HQ.out
     simp only [Bool.false_eq_true, false_and, false_or, true_and] at hq
     exact ⟨⟨_, rfl⟩, .inr ⟨_, by rw [← HK.out]; exact kidsTo_pre _ _ (by have := hlt0.out.1; omega), hq⟩⟩
   · have hq := HQ.out
     simp only [Bool.true_eq_false, false_and, or_false, true_and] at hq
     have HQ2 := a_ hq
     clear hq HQ
     gi_wp2
     refine ⟨⟨x + 1, by rw [show wrap64 (x + 1) = x + 1 from by have := HX.out; have := hlt0.out.1; unfold wrap64; omega], ⟨by have := HX.out; omega, by have := hlt0.out.1; omega⟩, ⟨by rw [hlt0.out.2.1, HK.out]; exact HQ2.out.1, HJ.out.2.trans HQ2.out.2⟩⟩, ?_⟩
     rw [show wrap64 (x + 1) = x + 1 from by have := HX.out; have := hlt0.out.1; unfold wrap64; omega]
     have := HX.out
     have := hlt0.out.1
     simp only [intOf]
     omega
/-- tree.Below: two boxes, a function value -/
theorem tree_Below.in_ (n : Nat) (hn : 1 ≤ n) (A0 : Option Addr) (len c0 : Nat) (a1 : Int) (w : World) :
 CallsIn Fence.wide n Tryz.prog 70 #[.slice A0 len c0, .int .i64 a1] w fun e w' => e = .returned (.func (.func 73) #[] #[.pointer (some ⟨w.heap.size + 1, 0, none⟩), .pointer (some ⟨w.heap.size, 0, none⟩)]) ∧ w' = (w.alloc (.cells #[.slice A0 len c0] 22)).alloc (.cells #[.int .i64 a1] 3) := by
 refine callsIn_of_wp Tryz.func70 rfl trivial ?_ rfl
 simp only [Tryz.ntmps70, List.size_toArray, List.length_cons, List.length_nil, Nat.reduceAdd, Nat.reduceSub, Array.replicate_succ, Array.replicate_zero, List.push_toArray, List.append_toArray, List.nil_append, List.cons_append]
 gi_wp2
 go_ret
 exact ⟨rfl, rfl⟩
theorem tree_Below.stops (n : Nat) (hn : 1 ≤ n) (A0 : Option Addr) (c0 : Nat) (l0 : List S64) (a1 : Int) (ha0 : 0 ≤ a1) (ha1 : a1 < (l0.length : Int)) (hlen : l0.length ≤ 9223372036854775806) (w : World) (hC : Kd.C k64 w A0 l0.length l0) (Bn Ba n₁ : Nat) (hn₁ : n₁ ≤ w.heap.size) (hbn : Bn < n₁) (hba : Ba < n₁)
 (hBn : w.cell? ⟨Bn, 0, none⟩ = some (.slice A0 l0.length c0)) (hBa : w.cell? ⟨Ba, 0, none⟩ = some (.int .i64 a1)) (w0 : World) (hw0 : Below w0.heap.size w0 w) (hC0 : Kd.C k64 w0 A0 l0.length l0) (hn0 : w0.heap.size ≤ n₁) :
 SeqStopsK Fence.wide n Tryz.prog 73 #[.pointer (some ⟨Ba, 0, none⟩), .pointer (some ⟨Bn, 0, none⟩)] (fun x : Int => #[Value.int .i64 x]) (Below n₁) (fun ys => ys = kidsTo l0 a1 l0.length) (fun pre => pre <+: kidsTo l0 a1 l0.length) l0.length w := fun l J Jx W hW hJ hJx hY h0 =>
 tree_Below_1.in_ n hn l Bn Ba n₁ l0.length A0 c0 l0 a1 ha0 ha1 hlen w0 hC0 (fun i hi => Nat.lt_of_le_of_lt (kidsTo_len l0 a1 i) hi) J Jx
  (fun s W1 m h => hJ s W1 (W1.drewN m) none h ⟨rfl, rfl, rfl, Nat.le_refl _, fun _ _ _ => rfl⟩ (fun r e => by cases e)) (fun pre x W1 h1 h2 _ => hY pre x W1 h1 h2) W (hw0.trans (hW.mono hw0.size)) hn0 ((hW.cell (p := ⟨Bn, 0, none⟩) (by show Bn < w.heap.size; omega)).trans hBn) ((hW.cell (p := ⟨Ba, 0, none⟩) (by show Ba < w.heap.size; omega)).trans hBa) hbn hba h0
theorem kidsTo_rng (ns : List S64) (a : Int) (x : Int) : ∀ n : Nat, x ∈ kidsTo ns a n → a < x ∧ x < (n : Int) ∧ (rd_T64 ns x).f1 = a
 | 0, h => by rw [kidsTo] at h; cases h
 | n + 1, h => by
  rw [kidsTo] at h
  by_cases c : a < (n : Int) ∧ (rd_T64 ns (n : Int)).f1 = a
  case neg =>
   rw [if_neg c] at h
   have := kidsTo_rng ns a x n h; exact ⟨this.1, by omega, this.2.2⟩
  rw [if_pos c, List.mem_append, List.mem_singleton] at h
  rcases h with h | h
  · have := kidsTo_rng ns a x n h; exact ⟨this.1, by omega, this.2.2⟩
  · subst h; exact ⟨c.1, by omega, c.2⟩
/-- the same of places that are places: a body may look there -/
theorem tree_Below.stopsF (n : Nat) (hn : 1 ≤ n) (A0 : Option Addr) (c0 : Nat) (l0 : List S64) (a1 : Int) (ha0 : 0 ≤ a1) (ha1 : a1 < (l0.length : Int)) (hlen : l0.length ≤ 9223372036854775806) (w : World) (hC : Kd.C k64 w A0 l0.length l0) (Bn Ba n₁ : Nat) (hn₁ : n₁ ≤ w.heap.size) (hbn : Bn < n₁) (hba : Ba < n₁)
 (hBn : w.cell? ⟨Bn, 0, none⟩ = some (.slice A0 l0.length c0)) (hBa : w.cell? ⟨Ba, 0, none⟩ = some (.int .i64 a1)) (w0 : World) (hw0 : Below w0.heap.size w0 w) (hC0 : Kd.C k64 w0 A0 l0.length l0) (hn0 : w0.heap.size ≤ n₁) :
 SeqStopsK Fence.wide n Tryz.prog 73 #[.pointer (some ⟨Ba, 0, none⟩), .pointer (some ⟨Bn, 0, none⟩)] (fun x : {x : Int // 0 ≤ x ∧ x < (l0.length : Int)} => #[Value.int .i64 x.1]) (Below n₁) (fun ys => ys.map (·.1) = kidsTo l0 a1 l0.length) (fun pre => pre.map (·.1) <+: kidsTo l0 a1 l0.length) l0.length w := fun l J Jx W hW hJ hJx hY h0 => by
 refine (tree_Below_1.in_ n hn l Bn Ba n₁ l0.length A0 c0 l0 a1 ha0 ha1 hlen w0 hC0 (fun i hi => Nat.lt_of_le_of_lt (kidsTo_len l0 a1 i) hi) (fun ys W1 => ∃ zs : List {x : Int // 0 ≤ x ∧ x < (l0.length : Int)}, zs.map (·.1) = ys ∧ J zs W1) (fun ys W1 => ∃ zs : List {x : Int // 0 ≤ x ∧ x < (l0.length : Int)}, zs.map (·.1) = ys ∧ Jx zs W1)
  ?_ ?_ W (hw0.trans (hW.mono hw0.size)) hn0 ((hW.cell (p := ⟨Bn, 0, none⟩) (by show Bn < w.heap.size; omega)).trans hBn) ((hW.cell (p := ⟨Ba, 0, none⟩) (by show Ba < w.heap.size; omega)).trans hBa) hbn hba ⟨[], rfl, h0⟩).mono ?_
 · rintro s W1 m ⟨zs, e, h⟩
   exact ⟨zs, e, hJ zs W1 (W1.drewN m) none h ⟨rfl, rfl, rfl, Nat.le_refl _, fun _ _ _ => rfl⟩ (fun r e => by cases e)⟩
 · rintro pre x W1 ⟨zs, e, h⟩ hl hx
   refine (hY zs ⟨x, hx⟩ W1 h (by rw [← e, List.length_map] at hl; exact hl)).mono ?_
   rintro e' W2 (⟨h1, h2, h3⟩ | ⟨h1, h2⟩)
   · exact .inl ⟨h1, ⟨_, by rw [List.map_append, e]; rfl, h2⟩, h3⟩
   · exact .inr ⟨h1, ⟨_, by rw [List.map_append, e]; rfl, h2⟩⟩
 · rintro e' W2 ⟨hv, ⟨ys, hy, zs, e, h⟩ | ⟨pre, hp, zs, e, h⟩⟩
   · exact ⟨hv, .inl ⟨zs, e.trans hy, h⟩⟩
   · exact ⟨hv, .inr ⟨zs, (show zs.map (fun x => x.1) <+: kidsTo l0 a1 l0.length by rw [e]; exact hp), h⟩⟩
end

end Go.Proofs.YtgokcaccamfgfaaGreatDoor.G
end
section
-- Laid by the session's own driver gp.py over the kit's printer. Not trusted: Lean checks it.
namespace Go.Proofs.YtgokcaccamfgfaaGreatDoor.G
open Go.RowKit Go.Proofs.YtgokcaccamfgfaaGreatDoorW.PrintWords Go.Proofs.YtgokcaccamfgfaaGreatDoorW.PrintLast Go.Proofs.YtgokcaccamfgfaaGreatDoorW.PrintMore
set_option maxHeartbeats 8000000
set_option maxRecDepth 100000
attribute [local go_sem] max2_int min2_int max_two min_two max_three min_three max_four min_four   -- for this text's walks alone
set_option linter.unusedVariables false
set_option linter.unusedSimpArgs false

/-- the first of a node's kids with a mark -/
def fstK (ns : List S64) (ms : List Int) (a m : Int) : Option Int := (kidsTo ns a ns.length).find? fun k => rd ms k == m
def top_first.f (l0 : List S64) (l1 : List Int) (a2 a3 : Int) : Option (Int × Bool) :=
 if 0 ≤ a2 ∧ a2 < (l0.length : Int) ∧ l0.length ≤ l1.length ∧ l0.length ≤ 512 then (match fstK l0 l1 a2 a3 with | some k => some (k, true) | none => some (0, false)) else none
theorem bx_four {w : World} {a b c d : Value} {s t u v : TypeId} :
 let w4 := (((w.alloc (.cells #[a] s)).alloc (.cells #[b] t)).alloc (.cells #[c] u)).alloc (.cells #[d] v)
 Boxed w4 w.heap.size s a ∧ Boxed w4 (w.heap.size + 1) t b ∧ Boxed w4 (w.heap.size + 1 + 1) u c ∧ Boxed w4 (w.heap.size + 1 + 1 + 1) v d ∧ Below w.heap.size w w4 ∧ w4.heap.size = w.heap.size + 4 := by
 intro w4
 have h1 := (((Boxed.new w s a).alloc (.cells #[b] t)).alloc (.cells #[c] u)).alloc (.cells #[d] v)
 have h2 := ((Boxed.new (w.alloc (.cells #[a] s)) t b).alloc (.cells #[c] u)).alloc (.cells #[d] v)
 have h3 := (Boxed.new ((w.alloc (.cells #[a] s)).alloc (.cells #[b] t)) u c).alloc (.cells #[d] v)
 have h4 := Boxed.new (((w.alloc (.cells #[a] s)).alloc (.cells #[b] t)).alloc (.cells #[c] u)) v d
 simp only [World.size_alloc] at h2 h3 h4
 have hB : Below w.heap.size w w4 := ((((Below.refl _ w).alloc (Nat.le_refl _) _).alloc (by simp) _).alloc (by simp; omega) _).alloc (by simp; omega) _
 exact ⟨h1, h2, h3, h4, hB, by simp [w4]⟩
theorem boxed_ownT {β : Type} (B b : Nat) (t : TypeId) (v : Value) : OwnFrom B (fun (_ : β) W => Boxed W b t v) := Own.from (boxed_own b t (fun _ => v)) B
theorem find_none_all (l : List Int) (p : Int → Bool) (h : ∀ y ∈ l, p y = false) : l.find? p = none := by
 rw [List.find?_eq_none]
 intro y hy
 rw [h y hy]
 exact Bool.false_ne_true
theorem find_pre (p : Int → Bool) (x : Int) (hx : p x = true) : ∀ (q l : List Int), q ++ [x] <+: l → (∀ y ∈ q, p y = false) → l.find? p = some x
 | [], l, h, _ => by
  obtain ⟨t, rfl⟩ := h
  rw [List.nil_append, List.cons_append, List.find?_cons, hx]
 | y :: q, l, h, hq => by
  cases l with
  | nil => have := List.IsPrefix.length_le h; simp at this
  | cons z l =>
   rw [List.cons_append, List.cons_prefix_cons] at h
   obtain ⟨rfl, h⟩ := h
   rw [List.find?_cons, hq y (List.mem_cons_self ..)]
   exact find_pre p x hx q l h (fun z hz => hq z (List.mem_cons_of_mem _ hz))
theorem first_ends {W w : World} {D : Nat} {tmps : Array Value} {i : Int} {b : Bool} (hK : W.heap[D]? = some (.deferred (some []))) (b0 : Boxed W (w.heap.size + 1 + 1) 3 (.int .i64 i)) (b1 : Boxed W (w.heap.size + 1 + 1 + 1) 4 (.bool b))
 (hB : Below w.heap.size w W) (hD : w.heap.size ≤ D) (h8 : tmps[8]? = some (.pointer (some ⟨w.heap.size + 1 + 1, 0, none⟩))) (h9 : tmps[9]? = some (.pointer (some ⟨w.heap.size + 1 + 1 + 1, 0, none⟩))) :
 bodyPostM Fence.wide 4 Tryz.prog Tryz.f61 (fun e w' => e = .returned (.tuple #[.int .i64 i, .bool b]) ∧ Below w.heap.size w w') .ret { tmps := tmps, defers := [{ target := .collected D, args := #[] }] } W := by
 have e0 := Go.cell_kept b0.cell (grownBy_putObj' _ D (.deferred none)) (fun r e => by cases e; exact ⟨_, hK, rfl⟩)
 have e1 := Go.cell_kept b1.cell (grownBy_putObj' _ D (.deferred none)) (fun r e => by cases e; exact ⟨_, hK, rfl⟩)
 refine ⟨by simp, .inl ⟨_, _, rfl, run_takeDeferred hK, ?_⟩⟩
 refine ⟨.tuple #[.int .i64 i, .bool b], ?_, rfl, hB.trans (belowK_b (w := w) (Nat.le_refl _) W D _ _ hD hK rfl rfl)⟩
 simp [results, Tryz.f61, go_sem, e0, e1, h8, h9]
abbrev KX (n : Nat) := {x : Int // 0 ≤ x ∧ x < (n : Int)}
section
attribute [local go_sem] Oper.semAt_some
theorem top_first.inW (A0 : Option Addr) (c0 : Nat) (l0 : List (S64)) (A1 : Option Addr) (c1 : Nat) (l1 : List Int) (a2 a3 r1 : Int) (r2 : Bool) (w : World) (hr0 : Kd.C k64 w A0 l0.length l0) (hr1 : Kd.C (Kd.int .i64) w A1 l1.length l1) (h0 : 0 ≤ a2) (h1 : a2 < (l0.length : Int)) (hl : l0.length ≤ l1.length) (h512 : l0.length ≤ 512) (hr : (match fstK l0 l1 a2 a3 with | some k => (k, true) | none => (0, false)) = (r1, r2)) :
 CallsIn Fence.wide 4 Tryz.prog 61 #[.slice A0 l0.length c0, .slice A1 l1.length c1, .int .i64 a2, .int .i64 a3] w fun e w' => e = .returned (.tuple #[.int .i64 r1, .bool r2]) ∧ Below w.heap.size w w' := by
 have HR0 := a_ hr0
 have HR1 := a_ hr1
 have HRR := a_ hr
 have HM := a_ (And.intro h0 (And.intro h1 (And.intro hl h512)))
 have hmix : Tryz.prog.follows .mixedOrders = true := by kernel_rfl
 clear hr0 hr1 hr h0 h1 hl h512
 refine callsIn_of_wp_marks Tryz.func61 rfl trivial ?_ rfl
 simp only [Tryz.ntmps61, List.size_toArray, List.length_cons, List.length_nil, Nat.reduceAdd, Nat.reduceSub, Array.replicate_succ, Array.replicate_zero, List.push_toArray, List.append_toArray, List.nil_append, List.cons_append]
 have ff1 : Fence.wide.fn 70 := trivial
 gi_wp2_with (first
  | (gi_at_call 70; refine (tree_Below.in_ _ (by omega) _ _ _ _ _).mono ?_; rintro e w7 ⟨rfl, rfl⟩))
 obtain ⟨bx0, bx1, bx2, bx3, hB4, hs4⟩ := bx_four (w := w) (a := .slice A1 l1.length c1) (b := .int .i64 a3) (c := .int .i64 0) (d := .bool false) (s := 27) (t := 3) (u := 3) (v := 4)
 obtain ⟨w4, hw4⟩ : ∃ w4, (((w.alloc (.cells #[.slice A1 l1.length c1] 27)).alloc (.cells #[.int .i64 a3] 3)).alloc (.cells #[.int .i64 0] 3)).alloc (.cells #[.bool false] 4) = w4 := ⟨_, rfl⟩
 rw [hw4] at bx0 bx1 bx2 bx3 hB4 hs4
 simp only [hw4]
 clear hw4
 obtain ⟨W0, hW0⟩ : ∃ W0, (w4.alloc (.cells #[.slice A0 l0.length c0] 22)).alloc (.cells #[.int .i64 a2] 3) = W0 := ⟨_, rfl⟩
 have bN : Boxed W0 w4.heap.size 22 (.slice A0 l0.length c0) := by rw [← hW0]; exact (Boxed.new w4 22 (.slice A0 l0.length c0)).alloc _
 have bA : Boxed W0 (w4.heap.size + 1) 3 (.int .i64 a2) := by
  have h := Boxed.new (w4.alloc (.cells #[.slice A0 l0.length c0] 22)) 3 (.int .i64 a2)
  rw [hW0, World.size_alloc] at h
  exact h
 have hs0 : W0.heap.size = w4.heap.size + 2 := by rw [← hW0]; simp
 have hB0 : Below w.heap.size w W0 := by rw [← hW0]; exact (hB4.alloc hB4.size _).alloc (by simp; omega) _
 have by0 : Boxed W0 w.heap.size 27 (.slice A1 l1.length c1) := by rw [← hW0]; exact (bx0.alloc _).alloc _
 have by1 : Boxed W0 (w.heap.size + 1) 3 (.int .i64 a3) := by rw [← hW0]; exact (bx1.alloc _).alloc _
 have by2 : Boxed W0 (w.heap.size + 1 + 1) 3 (.int .i64 0) := by rw [← hW0]; exact (bx2.alloc _).alloc _
 have by3 : Boxed W0 (w.heap.size + 1 + 1 + 1) 4 (.bool false) := by rw [← hW0]; exact (bx3.alloc _).alloc _
 clear bx0 bx1 bx2 bx3
 have hn4 : w4.heap.size = w.heap.size + 1 + 1 + 1 + 1 := by omega
 rw [hn4] at bN bA hs0
 rw [hW0]
 clear hW0
 have HW0 := a_ (And.intro hs0 hs4)
 clear hs0 hs4
 refine wpIn_rangeFunc_ownH (n := 4) rfl (by omega) (gf := 73) (lb := #[.pointer (some ⟨w.heap.size + 1 + 1 + 1 + 1 + 1, 0, none⟩), .pointer (some ⟨w.heap.size + 1 + 1 + 1 + 1, 0, none⟩)]) rfl trivial (enters_of Tryz.func73 (by kernel_rfl) rfl)
  (tree_Below.stopsF (4 - 1) (by omega) A0 c0 l0 a2 HM.out.1 HM.out.2.1 (by have := HM.out.2.2.2; omega) W0 (Kd.C_below HR0.out hB0) (w.heap.size + 1 + 1 + 1 + 1) (w.heap.size + 1 + 1 + 1 + 1 + 1) W0.heap.size (Nat.le_refl _) (by have := HW0.out; omega) (by have := HW0.out; omega) bN.cell bA.cell w hB0 HR0.out hB0.size) belowK_t (belowK_b (Nat.le_refl _)) (Below.refl _ _) (fun _ => rfl)
  (fun pre W => (((Boxed W w.heap.size 27 (.slice A1 l1.length c1) ∧ Boxed W (w.heap.size + 1) 3 (.int .i64 a3)) ∧ Boxed W (w.heap.size + 1 + 1) 3 (.int .i64 0)) ∧ Boxed W (w.heap.size + 1 + 1 + 1) 4 (.bool false)) ∧ Below w.heap.size W0 W ∧ (∀ y ∈ pre.map (·.1), (rd l1 y == a3) = false))
  (fun c pre W => c = .ret ∧ ∃ (q : List (KX l0.length)) (x : KX l0.length), pre = q ++ [x] ∧ (rd l1 x.1 == a3) = true ∧ (∀ y ∈ q.map (·.1), (rd l1 y == a3) = false) ∧ (Boxed W (w.heap.size + 1 + 1) 3 (.int .i64 x.1) ∧ Boxed W (w.heap.size + 1 + 1 + 1) 4 (.bool true)) ∧ Below w.heap.size W0 W)
  (OwnFrom.and (OwnFrom.and (OwnFrom.and (OwnFrom.and (boxed_ownT _ _ _ _) (boxed_ownT _ _ _ _)) (boxed_ownT _ _ _ _)) (boxed_ownT _ _ _ _)) (OwnFrom.and (ownFrom_below hB0.size hB0.size) (ownFrom_pure _ _)))
  (fun c s A B row hs hg hr => by
   obtain ⟨h1, q, x, h2, h3, h4, h5, h6⟩ := hs
   exact ⟨h1, q, x, h2, h3, h4, (OwnFrom.and (boxed_ownT (β := Unit) _ _ _ _) (boxed_ownT _ _ _ _)) () A B row h5 hg hr, ownFrom_below (β := Unit) hB0.size hB0.size () A B row h6 hg hr⟩)
  ⟨⟨⟨⟨by0, by1⟩, by2⟩, by3⟩, Below.refl _ _, by simp⟩
  (fun x a' W => a' = { tmps := #[.slice A0 l0.length c0, .slice A1 l1.length c1, .int .i64 a2, .int .i64 a3, undef, .pointer (some ⟨w.heap.size, 0, none⟩), undef, .pointer (some ⟨w.heap.size + 1, 0, none⟩), .pointer (some ⟨w.heap.size + 1 + 1, 0, none⟩), .pointer (some ⟨w.heap.size + 1 + 1 + 1, 0, none⟩), .int .i64 x.1, .slice A0 l0.length c0, .int .i64 a2, .func (.func 73) #[] #[.pointer (some ⟨w.heap.size + 1 + 1 + 1 + 1 + 1, 0, none⟩), .pointer (some ⟨w.heap.size + 1 + 1 + 1 + 1, 0, none⟩)], .int .i64 x.1, undef, undef, undef, undef, undef, undef, undef], defers := [] })
  (fun x a' _ X Y row hs hg hr => hs)
  ?assign ?body ?done ?stop
 case assign =>
  rintro l pre x W K hI hK
  gi_wp2
  exact hK _ _ (KeepsFrom.refl _ _) (Below.refl _ _) hI rfl
 case body =>
  rintro l pre ⟨xv, hv0, hv1⟩ a' W hl ⟨r, hr⟩ ⟨⟨⟨⟨b0, b1⟩, b2⟩, b3⟩, hb, hq⟩ rfl hlt
  dsimp only
  have HQ := a_ (And.intro hq (And.intro hb (And.intro b0 (And.intro b1 (And.intro b2 b3)))))
  have hx1 : xv < (l1.length : Int) := by have := HM.out.2.2.1; omega
  obtain ⟨ad, e0, g0⟩ := Kd.at_int HR1.out xv hv0 hx1
  cases e0
  have hbw := hB0.trans hb
  have g1 := (hbw.cell (World.block_lt_of_cell? w _ g0)).trans g0
  have c0_ := b0.cell
  have c1_ := b1.cell
  have hx0 := eq_true hv0
  have hlx := eq_true hx1
  clear hq hlt hr hb b0 b1 b2 b3 hbw g0 hx1
  obtain ⟨bv, hbv⟩ : ∃ bv, (rd l1 xv == a3) = bv := ⟨_, rfl⟩
  gi_wp2
  refine wpIn_mono (Q := fun e a w' => e = .normal ∧ (∃ (t15 t16 t17 t18 t19 : Value), a = { tmps := #[.slice A0 l0.length c0, .slice (some ad) l1.length c1, .int .i64 a2, .int .i64 a3, undef, .pointer (some ⟨w.heap.size, 0, none⟩), undef, .pointer (some ⟨w.heap.size + 1, 0, none⟩), .pointer (some ⟨w.heap.size + 1 + 1, 0, none⟩), .pointer (some ⟨w.heap.size + 1 + 1 + 1, 0, none⟩), .int .i64 xv, .slice A0 l0.length c0, .int .i64 a2, .func (.func 73) #[] #[.pointer (some ⟨w.heap.size + 1 + 1 + 1 + 1 + 1, 0, none⟩), .pointer (some ⟨w.heap.size + 1 + 1 + 1 + 1, 0, none⟩)], .int .i64 xv, t15, t16, t17, t18, t19, .bool bv, undef], defers := [] }) ∧ ∃ nq, w' = W.drewN nq) ?reg ?post
  case reg =>
   clear HQ HW0 HM HRR
   gi_region_with_o (fail)
   all_goals exact ⟨rfl, ⟨_, _, _, _, _, rfl⟩, _, rfl⟩
  case post =>
   rintro e a W3 ⟨rfl, ⟨t15, t16, t17, t18, t19, rfl⟩, nq, rfl⟩
   clear c0_ c1_ g1 hx0 hlx
   obtain ⟨hq, hb, b0, b1, b2, b3⟩ := HQ.out
   have b2' : Boxed (W.drewN nq) (w.heap.size + 1 + 1) 3 (.int .i64 0) := b2
   have b3' : Boxed (W.drewN nq) (w.heap.size + 1 + 1 + 1) 4 (.bool false) := b3
   have c2_ := b2'.cell
   have c3_ := b3'.cell
   have f2_ := b2'.frozen
   have f3_ := b3'.frozen
   have HP := a_ (And.intro hq (And.intro hb (And.intro b2' b3')))
   have HX := a_ hbv
   have kq : KeepsFrom W0.heap.size W (W.drewN nq) := ⟨Nat.le_refl _, fun k o _ h _ => h⟩
   have HK := a_ kq
   clear hq hb b2 b3 b2' b3' hbv kq
   cases bv
   · gi_wp2
     refine ⟨HK.out, below_dn (Below.refl _ _) nq, ⟨⟨⟨b0, b1⟩, HP.out.2.2.1⟩, HP.out.2.2.2⟩, below_dn HP.out.2.1 nq, ?_⟩
     intro y hy
     rw [List.map_append, List.mem_append] at hy
     rcases hy with hy | hy
     · exact HP.out.1 y hy
     · rw [List.map_cons, List.map_nil, List.mem_singleton] at hy
       subst hy
       exact HX.out
   · gi_wp2
     clear c2_ c3_ f2_ f3_
     refine ⟨HK.out.trans (((KeepsOthers.setCell _ _ _).trans (KeepsOthers.setCell _ _ _)).from _), rfl, pre, ⟨xv, hv0, hv1⟩, rfl, HX.out, HP.out.1, ⟨?_, ?_⟩, ?_⟩
     · exact (HP.out.2.2.1.set _).other (by omega) _
     · exact (HP.out.2.2.2.other (by omega) _).set _
     · exact (((below_dn HP.out.2.1 nq).setCell (p := ⟨w.heap.size + 1 + 1, 0, none⟩) (by show w.heap.size ≤ w.heap.size + 1 + 1; omega) _).setCell (p := ⟨w.heap.size + 1 + 1 + 1, 0, none⟩) (by show w.heap.size ≤ w.heap.size + 1 + 1 + 1; omega) _)
 case done =>
  rintro D ys W hD hS ⟨⟨⟨⟨b0, b1⟩, b2⟩, b3⟩, hb, hq⟩ hK
  have HQ := a_ (And.intro hq (And.intro hb hS))
  clear hq hS
  have c2_ := b2.cell
  have c3_ := b3.cell
  have f2_ := b2.frozen
  have f3_ := b3.frozen
  gi_wp2
  clear c2_ c3_ f2_ f3_
  have hl : fstK l0 l1 a2 a3 = none := find_none_all _ _ (fun y hy => HQ.out.1 y (by rw [HQ.out.2.2]; exact hy))
  have hrr := HRR.out
  rw [hl] at hrr
  obtain ⟨rfl, rfl⟩ := Prod.mk.inj hrr
  exact first_ends (((KeepsOthers.setCell _ _ _).trans (KeepsOthers.setCell _ _ _)).same D _ hK rfl) ((b2.set _).other (by omega) _) ((b3.other (by omega) _).set _)
   (((hB0.trans HQ.out.2.1).setCell (p := ⟨w.heap.size + 1 + 1, 0, none⟩) (by show w.heap.size ≤ w.heap.size + 1 + 1; omega) _).setCell (p := ⟨w.heap.size + 1 + 1 + 1, 0, none⟩) (by show w.heap.size ≤ w.heap.size + 1 + 1 + 1; omega) _) (by have := hB0.size; omega) rfl rfl
 case stop =>
  rintro D c pre W hD hSp ⟨rfl, q, x, h1, h2, h3, ⟨b2, b3⟩, hb⟩ hK
  have HQ := a_ (And.intro hSp (And.intro h1 (And.intro h2 (And.intro h3 hb))))
  clear hSp h1 h2 h3
  have c2_ := b2.cell
  have c3_ := b3.cell
  gi_wp2
  clear c2_ c3_
  obtain ⟨hSp, h1, h2, h3, hb⟩ := HQ.out
  have hl : fstK l0 l1 a2 a3 = some x.1 := find_pre _ x.1 h2 (q.map (·.1)) _ (by rw [h1, List.map_append] at hSp; exact hSp) h3
  have hrr := HRR.out
  rw [hl] at hrr
  obtain ⟨rfl, rfl⟩ := Prod.mk.inj hrr
  exact first_ends hK b2 b3 (hB0.trans hb) (by have := hB0.size; omega) rfl rfl
end
theorem top_first.calls (A0 : Option Addr) (c0 : Nat) (l0 : List (S64)) (A1 : Option Addr) (c1 : Nat) (l1 : List Int) (a2 : Int) (a3 : Int) (r1 : Int) (r2 : Bool) (w : World) (hr0 : Kd.C k64 w A0 l0.length l0) (hc0 : l0.length ≤ c0) (hr1 : Kd.C (Kd.int .i64) w A1 l1.length l1) (hc1 : l1.length ≤ c1) (h : top_first.f l0 l1 a2 a3 = some (r1, r2)) :
 Calls Tryz.prog 61 #[.slice A0 l0.length c0, .slice A1 l1.length c1, .int .i64 a2, .int .i64 a3] w fun e w' => e = .returned (.tuple #[.int .i64 r1, .bool r2]) ∧ Below w.heap.size w w' := by
 unfold top_first.f at h
 by_cases c : 0 ≤ a2 ∧ a2 < (l0.length : Int) ∧ l0.length ≤ l1.length ∧ l0.length ≤ 512
 case neg =>
  rw [if_neg c] at h; cases h

 rw [if_pos c] at h
 refine (callsIn_wide (n := 4)).1 (top_first.inW A0 c0 l0 A1 c1 l1 a2 a3 r1 r2 w hr0 hr1 c.1 c.2.1 c.2.2.1 c.2.2.2 ?_)
 cases hf : fstK l0 l1 a2 a3 with
 | none => rw [hf] at h; exact Option.some.inj h
 | some k => rw [hf] at h; exact Option.some.inj h
end Go.Proofs.YtgokcaccamfgfaaGreatDoor.G
end
section
-- Laid by the session's own driver gp.py over the kit's printer. Not trusted: Lean checks it.
namespace Go.Proofs.YtgokcaccamfgfaaGreatDoor.G
open Go.RowKit Go.Proofs.YtgokcaccamfgfaaGreatDoorW.PrintWords Go.Proofs.YtgokcaccamfgfaaGreatDoorW.PrintLast Go.Proofs.YtgokcaccamfgfaaGreatDoorW.PrintMore
set_option maxHeartbeats 8000000
set_option maxRecDepth 100000
attribute [local go_sem] max2_int min2_int max_two min_two max_three min_three max_four min_four   -- for this text's walks alone
set_option linter.unusedVariables false
set_option linter.unusedSimpArgs false

def bugS (ns : List S64) (ms : List Int) (a : Int) : Int × Int := if ((kidsTo ns a ns.length).all fun k => rd ms k == 1) = true then (1, a) else (3, 0)
def top_Bug.f (l0 : List S64) (l1 : List Int) (a2 : Int) : Option (Int × Int) :=
 if 0 ≤ a2 ∧ a2 < (l0.length : Int) ∧ l0.length ≤ l1.length ∧ l0.length ≤ 512 then some (bugS l0 l1 a2) else none
/-- a block of two cells -/
def Boxed2 (W : World) (B : Nat) (t : TypeId) (u v : Value) : Prop := W.heap[B]? = some (.cells #[u, v] t (0, 0))
theorem Boxed2.lt {W : World} {B : Nat} {t : TypeId} {u v : Value} (h : Boxed2 W B t u v) : B < W.heap.size := (Array.getElem?_eq_some_iff.1 h).1
theorem Boxed2.c0 {W : World} {B : Nat} {t : TypeId} {u v : Value} (h : Boxed2 W B t u v) : W.cell? ⟨B, 0, none⟩ = some u := by simp [World.cell?, show W.heap[B]? = _ from h]
theorem Boxed2.c1 {W : World} {B : Nat} {t : TypeId} {u v : Value} (h : Boxed2 W B t u v) : W.cell? ⟨B, 1, none⟩ = some v := by simp [World.cell?, show W.heap[B]? = _ from h]
theorem Boxed2.f0 {W : World} {B : Nat} {t : TypeId} {u v : Value} (h : Boxed2 W B t u v) : W.frozen? ⟨B, 0, none⟩ = false := by simp [World.frozen?, show W.heap[B]? = _ from h]
theorem Boxed2.f1 {W : World} {B : Nat} {t : TypeId} {u v : Value} (h : Boxed2 W B t u v) : W.frozen? ⟨B, 1, none⟩ = false := by simp [World.frozen?, show W.heap[B]? = _ from h]
theorem Boxed2.kept {W W' : World} {row : Option Nat} {B : Nat} {t : TypeId} {u v : Value} (h : Boxed2 W B t u v) (hg : W.grownBy W' row) (hne : some B ≠ row) : Boxed2 W' B t u v := (hg.block B h.lt hne).trans h
theorem Boxed2.new (W : World) (t : TypeId) (u v : Value) : Boxed2 (W.alloc (.cells #[u, v] t)) W.heap.size t u v := World.alloc_heap_new W _
theorem Boxed2.alloc {W : World} {B : Nat} {t : TypeId} {u v : Value} (h : Boxed2 W B t u v) (o : Obj) : Boxed2 (W.alloc o) B t u v := h.kept (World.grownBy_alloc W o none) (by simp)
theorem Boxed2.set0 {W : World} {B : Nat} {t : TypeId} {u v : Value} (h : Boxed2 W B t u v) (a : Value) : Boxed2 (W.setCell ⟨B, 0, none⟩ a) B t a v := by
 obtain ⟨hlt, hk⟩ := Array.getElem?_eq_some_iff.1 h
 show (W.heap.modify B _)[B]? = _
 rw [Array.getElem?_eq_getElem (by rw [Array.size_modify]; exact hlt), Array.getElem_modify_self, hk]
 rfl
theorem Boxed2.set1 {W : World} {B : Nat} {t : TypeId} {u v : Value} (h : Boxed2 W B t u v) (a : Value) : Boxed2 (W.setCell ⟨B, 1, none⟩ a) B t u a := by
 obtain ⟨hlt, hk⟩ := Array.getElem?_eq_some_iff.1 h
 show (W.heap.modify B _)[B]? = _
 rw [Array.getElem?_eq_getElem (by rw [Array.size_modify]; exact hlt), Array.getElem_modify_self, hk]
 rfl
theorem Boxed2.put {W : World} {B : Nat} {t : TypeId} {u v : Value} (h : Boxed2 W B t u v) (a b : Value) : Boxed2 ((W.setCell ⟨B, 0, none⟩ a).setCell ⟨B, 1, none⟩ b) B t a b := (h.set0 a).set1 b
theorem bug_ends {W w : World} {D : Nat} {tmps : Array Value} {i j : Int} (hK : W.heap[D]? = some (.deferred (some []))) (b : Boxed2 W (w.heap.size + 1) 34 (.int .i64 i) (.int .i64 j))
 (hB : Below w.heap.size w W) (hD : w.heap.size ≤ D) (h6 : tmps[6]? = some (.pointer (some ⟨w.heap.size + 1, 0, none⟩))) :
 bodyPostM Fence.wide 4 Tryz.prog Tryz.f60 (fun e w' => e = .returned (.agg #[.int .i64 i, .int .i64 j]) ∧ Below w.heap.size w w') .ret { tmps := tmps, defers := [{ target := .collected D, args := #[] }] } W := by
 have e0 := Go.cell_kept b.c0 (grownBy_putObj' _ D (.deferred none)) (fun r e => by cases e; exact ⟨_, hK, rfl⟩)
 have e1 := Go.cell_kept b.c1 (grownBy_putObj' _ D (.deferred none)) (fun r e => by cases e; exact ⟨_, hK, rfl⟩)
 have hu := Tryz.underlying34
 refine ⟨by simp, .inl ⟨_, _, rfl, run_takeDeferred hK, ?_⟩⟩
 refine ⟨.agg #[.int .i64 i, .int .i64 j], ?_, rfl, hB.trans (belowK_b (w := w) (Nat.le_refl _) W D _ _ hD hK rfl rfl)⟩
 simp [results, Tryz.f60, go_sem, e0, e1, h6]
theorem boxed2_ownT {β : Type} (B0 B : Nat) (t : TypeId) (u v : Value) : OwnFrom B0 (fun (_ : β) W => Boxed2 W B t u v) :=
 Own.from (fun s X Y row hs hg hrow => hs.kept hg (fun e' => by obtain ⟨o, ho, hc⟩ := hrow B e'.symm; rw [show X.heap[B]? = _ from hs] at ho; cases ho; cases hc)) B0
section
attribute [local go_sem] Oper.semAt_some
theorem top_Bug.inW (A0 : Option Addr) (c0 : Nat) (l0 : List (S64)) (A1 : Option Addr) (c1 : Nat) (l1 : List Int) (a2 r1 : Int) (r2 : Int) (w : World) (hr0 : Kd.C k64 w A0 l0.length l0) (hr1 : Kd.C (Kd.int .i64) w A1 l1.length l1) (h0 : 0 ≤ a2) (h1 : a2 < (l0.length : Int)) (hl : l0.length ≤ l1.length) (h512 : l0.length ≤ 512) (hr : bugS l0 l1 a2 = (r1, r2)) :
 CallsIn Fence.wide 4 Tryz.prog 60 #[.slice A0 l0.length c0, .slice A1 l1.length c1, .int .i64 a2] w fun e w' => e = .returned (.agg #[.int .i64 r1, .int .i64 r2]) ∧ Below w.heap.size w w' := by
 have HR0 := a_ hr0
 have HR1 := a_ hr1
 have HRR := a_ hr
 have HM := a_ (And.intro h0 (And.intro h1 (And.intro hl h512)))
 have hmix : Tryz.prog.follows .mixedOrders = true := by kernel_rfl
 have hu := Tryz.underlying34
 clear hr0 hr1 hr h0 h1 hl h512
 refine callsIn_of_wp_marks Tryz.func60 rfl trivial ?_ rfl
 simp only [Tryz.ntmps60, List.size_toArray, List.length_cons, List.length_nil, Nat.reduceAdd, Nat.reduceSub, Array.replicate_succ, Array.replicate_zero, List.push_toArray, List.append_toArray, List.nil_append, List.cons_append]
 have ff1 : Fence.wide.fn 70 := trivial
 gi_wp2_with (first
  | (gi_at_call 70; refine (tree_Below.in_ _ (by omega) _ _ _ _ _).mono ?_; rintro e w7 ⟨rfl, rfl⟩))
 have bx0 := ((Boxed.new w 27 (.slice A1 l1.length c1)).alloc (.cells #[.int .i64 0, .int .i64 0] 34))
 have bx1 := Boxed2.new (w.alloc (.cells #[.slice A1 l1.length c1] 27)) 34 (.int .i64 0) (.int .i64 0)
 obtain ⟨w4, hw4⟩ : ∃ w4, (w.alloc (.cells #[.slice A1 l1.length c1] 27)).alloc (.cells #[.int .i64 0, .int .i64 0] 34) = w4 := ⟨_, rfl⟩
 have hB4 : Below w.heap.size w w4 := by rw [← hw4]; exact ((Below.refl _ w).alloc (Nat.le_refl _) _).alloc (by simp) _
 have hn4 : w4.heap.size = w.heap.size + 1 + 1 := by rw [← hw4]; simp
 rw [hw4] at bx0 bx1
 simp only [World.size_alloc] at bx1
 simp only [hw4]
 clear hw4
 obtain ⟨W0, hW0⟩ : ∃ W0, (w4.alloc (.cells #[.slice A0 l0.length c0] 22)).alloc (.cells #[.int .i64 a2] 3) = W0 := ⟨_, rfl⟩
 have bN : Boxed W0 w4.heap.size 22 (.slice A0 l0.length c0) := by rw [← hW0]; exact (Boxed.new w4 22 (.slice A0 l0.length c0)).alloc _
 have bA : Boxed W0 (w4.heap.size + 1) 3 (.int .i64 a2) := by
  have h := Boxed.new (w4.alloc (.cells #[.slice A0 l0.length c0] 22)) 3 (.int .i64 a2)
  rw [hW0, World.size_alloc] at h
  exact h
 have hs0 : W0.heap.size = w4.heap.size + 2 := by rw [← hW0]; simp
 have hB0 : Below w.heap.size w W0 := by rw [← hW0]; exact (hB4.alloc hB4.size _).alloc (by simp; omega) _
 have by0 : Boxed W0 w.heap.size 27 (.slice A1 l1.length c1) := by rw [← hW0]; exact (bx0.alloc _).alloc _
 have by1 : Boxed2 W0 (w.heap.size + 1) 34 (.int .i64 0) (.int .i64 0) := by rw [← hW0]; exact (bx1.alloc _).alloc _
 clear bx0 bx1
 rw [hn4] at bN bA hs0
 rw [hW0]
 clear hW0
 have HW0 := a_ hs0
 clear hs0
 refine wpIn_rangeFunc_ownH (n := 4) rfl (by omega) (gf := 73) (lb := #[.pointer (some ⟨w.heap.size + 1 + 1 + 1, 0, none⟩), .pointer (some ⟨w.heap.size + 1 + 1, 0, none⟩)]) rfl trivial (enters_of Tryz.func73 (by kernel_rfl) rfl)
  (tree_Below.stopsF (4 - 1) (by omega) A0 c0 l0 a2 HM.out.1 HM.out.2.1 (by have := HM.out.2.2.2; omega) W0 (Kd.C_below HR0.out hB0) (w.heap.size + 1 + 1) (w.heap.size + 1 + 1 + 1) W0.heap.size (Nat.le_refl _) (by have := HW0.out; omega) (by have := HW0.out; omega) bN.cell bA.cell w hB0 HR0.out hB0.size) belowK_t (belowK_b (Nat.le_refl _)) (Below.refl _ _) (fun _ => rfl)
  (fun pre W => (Boxed W w.heap.size 27 (.slice A1 l1.length c1) ∧ Boxed2 W (w.heap.size + 1) 34 (.int .i64 0) (.int .i64 0)) ∧ Below w.heap.size W0 W ∧ (∀ y ∈ pre.map (·.1), (rd l1 y == 1) = true))
  (fun c pre W => c = .ret ∧ ∃ (q : List (KX l0.length)) (x : KX l0.length), pre = q ++ [x] ∧ (rd l1 x.1 == 1) = false ∧ Boxed2 W (w.heap.size + 1) 34 (.int .i64 3) (.int .i64 0) ∧ Below w.heap.size W0 W)
  (OwnFrom.and (OwnFrom.and (boxed_ownT _ _ _ _) (boxed2_ownT _ _ _ _ _)) (OwnFrom.and (ownFrom_below hB0.size hB0.size) (ownFrom_pure _ _)))
  (fun c s A B row hs hg hr => by
   obtain ⟨h1, q, x, h2, h3, h5, h6⟩ := hs
   exact ⟨h1, q, x, h2, h3, (boxed2_ownT (β := Unit) _ _ _ _ _) () A B row h5 hg hr, ownFrom_below (β := Unit) hB0.size hB0.size () A B row h6 hg hr⟩)
  ⟨⟨by0, by1⟩, Below.refl _ _, by simp⟩
  (fun x a' W => a' = { tmps := #[.slice A0 l0.length c0, .slice A1 l1.length c1, .int .i64 a2, undef, .pointer (some ⟨w.heap.size, 0, none⟩), undef, .pointer (some ⟨w.heap.size + 1, 0, none⟩), .int .i64 x.1, .slice A0 l0.length c0, .int .i64 a2, .func (.func 73) #[] #[.pointer (some ⟨w.heap.size + 1 + 1 + 1, 0, none⟩), .pointer (some ⟨w.heap.size + 1 + 1, 0, none⟩)], .int .i64 x.1, undef, undef, undef, undef, undef, undef, undef, undef], defers := [] })
  (fun x a' _ X Y row hs hg hr => hs)
  ?assign ?body ?done ?stop
 case assign =>
  rintro l pre x W K hI hK
  gi_wp2
  exact hK _ _ (KeepsFrom.refl _ _) (Below.refl _ _) hI rfl
 case body =>
  rintro l pre ⟨xv, hv0, hv1⟩ a' W hl ⟨r, hr⟩ ⟨⟨b0, b1⟩, hb, hq⟩ rfl hlt
  dsimp only
  have HQ := a_ (And.intro hq (And.intro hb (And.intro b0 b1)))
  have hx1 : xv < (l1.length : Int) := by have := HM.out.2.2.1; omega
  obtain ⟨ad, e0, g0⟩ := Kd.at_int HR1.out xv hv0 hx1
  cases e0
  have hbw := hB0.trans hb
  have g1 := (hbw.cell (World.block_lt_of_cell? w _ g0)).trans g0
  have c0_ := b0.cell
  have c1_ := b1.c0
  have c2_ := b1.c1
  have f1_ := b1.f0
  have f2_ := b1.f1
  have hx0 := eq_true hv0
  have hlx := eq_true hx1
  clear hq hlt hr hb b0 b1 hbw g0 hx1
  cases hbv : (rd l1 xv == 1) with
  | true =>
   have hne : (rd l1 xv != 1) = false := by rw [bne, hbv]; rfl
   have HX := a_ hbv
   clear hbv
   gi_wp2
   refine ⟨KeepsFrom.refl _ _, Below.refl _ _, HQ.out.2.2, HQ.out.2.1, ?_⟩
   intro y hy
   rw [List.map_append, List.mem_append] at hy
   rcases hy with hy | hy
   · exact HQ.out.1 y hy
   · rw [List.map_cons, List.map_nil, List.mem_singleton] at hy
     subst hy
     exact HX.out
  | false =>
   have hne : (rd l1 xv != 1) = true := by rw [bne, hbv]; rfl
   have HX := a_ hbv
   clear hbv
   gi_wp2
   clear c1_ c2_ f1_ f2_
   exact ⟨((KeepsOthers.setCell _ _ _).trans (KeepsOthers.setCell _ _ _)).from _, rfl, pre, ⟨xv, hv0, hv1⟩, rfl, HX.out, HQ.out.2.2.2.put _ _, (HQ.out.2.1.setCell (p := ⟨w.heap.size + 1, 0, none⟩) (by show w.heap.size ≤ w.heap.size + 1; omega) _).setCell (p := ⟨w.heap.size + 1, 1, none⟩) (by show w.heap.size ≤ w.heap.size + 1; omega) _⟩
 case done =>
  rintro D ys W hD hS ⟨⟨b0, b1⟩, hb, hq⟩ hK
  have HQ := a_ (And.intro hq (And.intro hb hS))
  clear hq hS
  have c1_ := b1.c0
  have c2_ := b1.c1
  have f1_ := b1.f0
  have f2_ := b1.f1
  gi_wp2
  clear c1_ c2_ f1_ f2_
  have hl : bugS l0 l1 a2 = (1, a2) := by
   unfold bugS
   rw [if_pos (List.all_eq_true.2 fun y hy => HQ.out.1 y (by rw [HQ.out.2.2]; exact hy))]
  have hrr := HRR.out
  rw [hl] at hrr
  obtain ⟨rfl, rfl⟩ := Prod.mk.inj hrr
  exact bug_ends (((KeepsOthers.setCell _ _ _).trans (KeepsOthers.setCell _ _ _)).same D _ hK rfl) (b1.put _ _)
   (((hB0.trans HQ.out.2.1).setCell (p := ⟨w.heap.size + 1, 0, none⟩) (by show w.heap.size ≤ w.heap.size + 1; omega) _).setCell (p := ⟨w.heap.size + 1, 1, none⟩) (by show w.heap.size ≤ w.heap.size + 1; omega) _) (by have := hB0.size; omega) rfl
 case stop =>
  rintro D c pre W hD hSp ⟨rfl, q, x, h1, h2, b, hb⟩ hK
  have HQ := a_ (And.intro hSp (And.intro h1 (And.intro h2 hb)))
  clear hSp h1 h2
  gi_wp2
  obtain ⟨hSp, h1, h2, hb⟩ := HQ.out
  have hl : bugS l0 l1 a2 = (3, 0) := by
   unfold bugS
   rw [if_neg]
   intro hall
   have hm : x.1 ∈ kidsTo l0 a2 l0.length := hSp.subset (by rw [h1]; simp)
   have := List.all_eq_true.1 hall x.1 hm
   rw [h2] at this
   exact Bool.false_ne_true this
  have hrr := HRR.out
  rw [hl] at hrr
  obtain ⟨rfl, rfl⟩ := Prod.mk.inj hrr
  exact bug_ends hK b (hB0.trans hb) (by have := hB0.size; omega) rfl
end
theorem top_Bug.calls (A0 : Option Addr) (c0 : Nat) (l0 : List (S64)) (A1 : Option Addr) (c1 : Nat) (l1 : List Int) (a2 : Int) (r1 : Int) (r2 : Int) (w : World) (hr0 : Kd.C k64 w A0 l0.length l0) (hc0 : l0.length ≤ c0) (hr1 : Kd.C (Kd.int .i64) w A1 l1.length l1) (hc1 : l1.length ≤ c1) (h : top_Bug.f l0 l1 a2 = some (r1, r2)) :
 Calls Tryz.prog 60 #[.slice A0 l0.length c0, .slice A1 l1.length c1, .int .i64 a2] w fun e w' => e = .returned (.agg #[.int .i64 r1, .int .i64 r2]) ∧ Below w.heap.size w w' := by
 unfold top_Bug.f at h
 by_cases c : 0 ≤ a2 ∧ a2 < (l0.length : Int) ∧ l0.length ≤ l1.length ∧ l0.length ≤ 512
 case neg =>
  rw [if_neg c] at h; cases h

 rw [if_pos c] at h
 exact (callsIn_wide (n := 4)).1 (top_Bug.inW A0 c0 l0 A1 c1 l1 a2 r1 r2 w hr0 hr1 c.1 c.2.1 c.2.2.1 c.2.2.2 (Option.some.inj h))
end Go.Proofs.YtgokcaccamfgfaaGreatDoor.G
end
section
-- Laid by the session's own driver gp.py over the kit's printer. Not trusted: Lean checks it.
namespace Go.Proofs.YtgokcaccamfgfaaGreatDoor.G
open Go.RowKit Go.Proofs.YtgokcaccamfgfaaGreatDoorW.PrintWords Go.Proofs.YtgokcaccamfgfaaGreatDoorW.PrintLast Go.Proofs.YtgokcaccamfgfaaGreatDoorW.PrintMore
set_option maxHeartbeats 8000000
set_option maxRecDepth 100000
attribute [local go_sem] max2_int min2_int max_two min_two max_three min_three max_four min_four   -- for this text's walks alone
set_option linter.unusedVariables false
set_option linter.unusedSimpArgs false

def top_Ask.l0 : Nat → List (S64) → List Int → Int → Int → Bool → Option (Int × Int)
 | 0, _, _, _, _, _ => none
 | k + 1, x0, x1, x5, x6, x7 => if x7 = true then ((top_first.f x0 x1 x6 2).bind fun bt297 => (top_Ask.l0 k x0 x1 x6 bt297.1 bt297.2)) else ((top_first.f x0 x1 x5 0).bind fun bt299 => (if bt299.2 = true then (some (0, bt299.1)) else ((top_Bug.f x0 x1 x5).bind fun bt301 => (some (bt301.1, bt301.2)))))
def top_Ask.f (k : Nat) (l0 : List (S64)) (l1 : List Int) : Option (Int × Int) := if 0 < (l1.length : Int) then (if (rd l1 0) = 0 then (some (0, 0)) else (if (rd l1 0) = 1 then (some (2, 0)) else (if (rd l1 0) = 3 then (some (3, 0)) else ((top_first.f l0 l1 0 2).bind fun bt295 => (top_Ask.l0 k l0 l1 0 bt295.1 bt295.2))))) else (none)
theorem top_Ask.mono_l : ∀ k, (∀ y0 y1 y2 y3 y4, LeO (top_Ask.l0 k y0 y1 y2 y3 y4) (top_Ask.l0 (k + 1) y0 y1 y2 y3 y4))
 | 0 => fun _ _ _ _ _ r h => by simp [top_Ask.l0] at h
 | k + 1 => by
  have ih0 := top_Ask.mono_l k
  · intro y0 y1 y2 y3 y4
    unfold top_Ask.l0
    repeat' first
    | (with_reducible exact ih0 _ _ _ _ _)
    | (with_reducible exact LeO.refl _)
    | (with_reducible exact LeO.none _)
    | (with_reducible refine LeO.ite ?_ ?_)
    | (with_reducible refine LeO.bind ?_ (fun _ => ?_))
    | exact ih0 _ _ _ _ _
    | exact LeO.none _
    | refine LeO.ite ?_ ?_
    | refine LeO.bind ?_ (fun _ => ?_)
theorem top_Ask.mono : ∀ a0 a1 k, LeO (top_Ask.f k a0 a1) (top_Ask.f (k + 1) a0 a1) := by
 intro a0 a1 k
 have ih0 := top_Ask.mono_l k
 unfold top_Ask.f
 repeat' first
  | (with_reducible exact ih0 _ _ _ _ _)
  | (with_reducible exact LeO.refl _)
  | (with_reducible exact LeO.none _)
  | (with_reducible refine LeO.ite ?_ ?_)
  | (with_reducible refine LeO.bind ?_ (fun _ => ?_))
  | exact ih0 _ _ _ _ _
  | exact LeO.none _
  | refine LeO.ite ?_ ?_
  | refine LeO.bind ?_ (fun _ => ?_)
theorem top_Ask.calls (k : Nat) (A0 : Option Addr) (c0 : Nat) (l0 : List (S64)) (A1 : Option Addr) (c1 : Nat) (l1 : List Int) (r1 : Int) (r2 : Int) (w : World) (hr0 : Kd.C k64 w A0 l0.length l0) (hc0 : l0.length ≤ c0) (hr1 : Kd.C (Kd.int .i64) w A1 l1.length l1) (hc1 : l1.length ≤ c1) (h : top_Ask.f k l0 l1 = some (r1, r2)) :
 Calls Tryz.prog 44 #[.slice A0 l0.length c0, .slice A1 l1.length c1] w fun e w' => e = .returned (.agg #[.int .i64 r1, .int .i64 r2]) ∧ Below w.heap.size w w' := by
 have hu34 := Tryz.underlying34
 have HR0 := a_ hr0
 have HC0 := a_ hc0
 clear hr0 hc0
 have HR1 := a_ hr1
 have HC1 := a_ hc1
 clear hr1 hc1
 have HB := a_ (Below.refl w.heap.size w)
 have H : (if 0 < (l1.length : Int) then (if (rd l1 0) = 0 then (some (0, 0)) else (if (rd l1 0) = 1 then (some (2, 0)) else (if (rd l1 0) = 3 then (some (3, 0)) else ((top_first.f l0 l1 0 2).bind fun bt295 => (top_Ask.l0 k l0 l1 0 bt295.1 bt295.2))))) else (none)) = some (r1, r2) := h
 clear h
 replace H := ifI_ H; obtain ⟨c3, H⟩ := H
 have c3b0 : decide (0 < (l1.length : Int)) = true := decide_eq_true c3
 have c3b1 : decide (0 < l1.length) = true := decide_eq_true (by omega)
 clear c3
 by_cases c4 : (rd l1 0) = 0
 case pos =>
  rw [if_pos c4] at H
  have c4b0 : ((rd l1 0) == 0) = true := beq_iff_eq.mpr c4
  have c4b1 : ((rd l1 0) != 0) = false := bne_eq_false_iff_eq.mpr c4
  clear c4
  simp only [Option.some.injEq, Prod.mk.injEq] at H
  obtain ⟨rfl, rfl⟩ := H
  go_enter Tryz.func44, Tryz.ntmps44
  go_wp2_with (first | ((with_reducible refine gate_dst (N := 4) rfl ?_); refine boxE_ 4 #[.int .i64 0, .int .i64 0] 34 ?_; intro gb293 hg w5 hbox hb; have BK293 := a_ (hbox); have GW293 := a_ ((gE_ hg : w.heap.size ≤ gb293)); have GE293 := a_ ((gE_ hg : w.heap.size ≤ gb293)); replace HB := a_ (below_step hB_ hb); clear hb hbox hg; have p294 : 0 ≤ (0 : Int) := (by omega); have q294 : 0 < (l1.length : Int) := of_decide_eq_true hA_; obtain ⟨ad294, e294, hx294_0⟩ := Kd.at_int HR1.out 0 p294 q294; cases e294; have qi294 : (0 < l1.length) = True := eq_true (by omega); (try rw [show ((0 : Int)).toNat = 0 from rfl] at hx294_0); (try rw [Addr.add_zero'] at hx294_0); replace hx294_0 := cl_ HB.out hx294_0; replace p294 := eq_true p294; replace q294 := eq_true q294; obtain ⟨hcz6_0, hcz6_1, hfz6_0, hfz6_1⟩ := bx2_ BK293.out))
  refine bodyPost_ret (results_cell_row rfl _ _ gb293 34 #[.int .i64 0, .int .i64 0] (0, 0) _ rfl (bP_ (bP_ (hK_ BK293.out))) Tryz.underlying34 rfl (by kernel_rfl)) rfl ?_
  exact ⟨hV_, hC_⟩
 rw [if_neg c4] at H
 have c4b0 : ((rd l1 0) == 0) = false := beq_eq_false_iff_ne.mpr c4
 have c4b1 : ((rd l1 0) != 0) = true := bne_iff_ne.mpr c4
 by_cases c7 : (rd l1 0) = 1
 case pos =>
  rw [if_pos c7] at H
  have c7b0 : ((rd l1 0) == 1) = true := beq_iff_eq.mpr c7
  have c7b1 : ((rd l1 0) != 1) = false := bne_eq_false_iff_eq.mpr c7
  clear c7
  simp only [Option.some.injEq, Prod.mk.injEq] at H
  obtain ⟨rfl, rfl⟩ := H
  go_enter Tryz.func44, Tryz.ntmps44
  go_wp2_with (first | ((with_reducible refine gate_dst (N := 4) rfl ?_); refine boxE_ 4 #[.int .i64 0, .int .i64 0] 34 ?_; intro gb293 hg w8 hbox hb; have BK293 := a_ (hbox); have GW293 := a_ ((gE_ hg : w.heap.size ≤ gb293)); have GE293 := a_ ((gE_ hg : w.heap.size ≤ gb293)); replace HB := a_ (below_step hB_ hb); clear hb hbox hg; have p294 : 0 ≤ (0 : Int) := (by omega); have q294 : 0 < (l1.length : Int) := of_decide_eq_true hA_; obtain ⟨ad294, e294, hx294_0⟩ := Kd.at_int HR1.out 0 p294 q294; cases e294; have qi294 : (0 < l1.length) = True := eq_true (by omega); (try rw [show ((0 : Int)).toNat = 0 from rfl] at hx294_0); (try rw [Addr.add_zero'] at hx294_0); replace hx294_0 := cl_ HB.out hx294_0; replace p294 := eq_true p294; replace q294 := eq_true q294; obtain ⟨hcz9_0, hcz9_1, hfz9_0, hfz9_1⟩ := bx2_ BK293.out))
  refine bodyPost_ret (results_cell_row rfl _ _ gb293 34 #[.int .i64 2, .int .i64 0] (0, 0) _ rfl (bP_ (bP_ (hK_ BK293.out))) Tryz.underlying34 rfl (by kernel_rfl)) rfl ?_
  exact ⟨hV_, hC_⟩
 rw [if_neg c7] at H
 have c7b0 : ((rd l1 0) == 1) = false := beq_eq_false_iff_ne.mpr c7
 have c7b1 : ((rd l1 0) != 1) = true := bne_iff_ne.mpr c7
 by_cases c10 : (rd l1 0) = 3
 case pos =>
  rw [if_pos c10] at H
  have c10b0 : ((rd l1 0) == 3) = true := beq_iff_eq.mpr c10
  have c10b1 : ((rd l1 0) != 3) = false := bne_eq_false_iff_eq.mpr c10
  clear c10
  simp only [Option.some.injEq, Prod.mk.injEq] at H
  obtain ⟨rfl, rfl⟩ := H
  go_enter Tryz.func44, Tryz.ntmps44
  go_wp2_with (first | ((with_reducible refine gate_dst (N := 4) rfl ?_); refine boxE_ 4 #[.int .i64 0, .int .i64 0] 34 ?_; intro gb293 hg w11 hbox hb; have BK293 := a_ (hbox); have GW293 := a_ ((gE_ hg : w.heap.size ≤ gb293)); have GE293 := a_ ((gE_ hg : w.heap.size ≤ gb293)); replace HB := a_ (below_step hB_ hb); clear hb hbox hg; have p294 : 0 ≤ (0 : Int) := (by omega); have q294 : 0 < (l1.length : Int) := of_decide_eq_true hA_; obtain ⟨ad294, e294, hx294_0⟩ := Kd.at_int HR1.out 0 p294 q294; cases e294; have qi294 : (0 < l1.length) = True := eq_true (by omega); (try rw [show ((0 : Int)).toNat = 0 from rfl] at hx294_0); (try rw [Addr.add_zero'] at hx294_0); replace hx294_0 := cl_ HB.out hx294_0; replace p294 := eq_true p294; replace q294 := eq_true q294; obtain ⟨hcz12_0, hcz12_1, hfz12_0, hfz12_1⟩ := bx2_ BK293.out))
  refine bodyPost_ret (results_cell_row rfl _ _ gb293 34 #[.int .i64 3, .int .i64 0] (0, 0) _ rfl (bP_ (bP_ (hK_ BK293.out))) Tryz.underlying34 rfl (by kernel_rfl)) rfl ?_
  exact ⟨hV_, hC_⟩
 rw [if_neg c10] at H
 have c10b0 : ((rd l1 0) == 3) = false := beq_eq_false_iff_ne.mpr c10
 have c10b1 : ((rd l1 0) != 3) = true := bne_iff_ne.mpr c10
 replace H := Option.bind_eq_some_iff.mp H
 obtain ⟨⟨t295, t296⟩, A130, H⟩ := H
 replace H : (top_Ask.l0 k l0 l1 0 t295 t296) = some (r1, r2) := H
 have A13 := a_ A130
 clear A130
 have H' := a_ H
 clear H
 go_enter Tryz.func44, Tryz.ntmps44
 go_wp2_with (first | ((with_reducible refine gate_dst (N := 4) rfl ?_); refine boxE_ 4 #[.int .i64 0, .int .i64 0] 34 ?_; intro gb293 hg w14 hbox hb; have BK293 := a_ (hbox); have GW293 := a_ ((gE_ hg : w.heap.size ≤ gb293)); have GE293 := a_ ((gE_ hg : w.heap.size ≤ gb293)); replace HB := a_ (below_step hB_ hb); clear hb hbox hg; have p294 : 0 ≤ (0 : Int) := (by omega); have q294 : 0 < (l1.length : Int) := of_decide_eq_true hA_; obtain ⟨ad294, e294, hx294_0⟩ := Kd.at_int HR1.out 0 p294 q294; cases e294; have qi294 : (0 < l1.length) = True := eq_true (by omega); (try rw [show ((0 : Int)).toNat = 0 from rfl] at hx294_0); (try rw [Addr.add_zero'] at hx294_0); replace hx294_0 := cl_ HB.out hx294_0; replace p294 := eq_true p294; replace q294 := eq_true q294) | ((with_reducible refine gate_callee (f := 61) rfl ?_); refine goesL_ (some 26) rfl rfl Tryz.func61 (by kernel_rfl) rfl #[.slice A0 l0.length c0, .slice (some ad294) l1.length c1, .int .i64 0, .int .i64 2] rfl hL_ ?_; (with_reducible refine (top_first.calls _ _ l0 _ _ l1 0 2 t295 t296 _ ?side1 ?side2 ?side3 ?side4 A13.out).mono ?_); (case side1 => exact cB_ HR0.out); (case side2 => exact HC0.out); (case side3 => exact cB_ HR1.out); (case side4 => exact HC1.out); rintro e w15 ⟨rfl, hb⟩; refine ⟨_, rfl, ?_⟩; replace BK293 := a_ (bB_ BK293.out hb); replace HB := a_ (below_step hC_ hb); (try clear hb); (try clear hb2); (try clear hk); (try clear hi)))
 (try simp only [Act.put, List.setIfInBounds_toArray, List.set_cons_zero, List.set_cons_succ])
 go_loopg [5, 6, 7] k (fun kq v5 v6 v7 w' => ∃ (x5_1 : Int) (x6_1 : Int) (x7_1 : Bool), v5 = .int .i64 x5_1 ∧ v6 = .int .i64 x6_1 ∧ v7 = .bool x7_1 ∧ Aside0 (top_Ask.l0 kq l0 l1 x5_1 x6_1 x7_1 = some (r1, r2)) ∧ Aside0 (kq ≤ k) ∧ Aside0 (w'.heap[gb293]? = some (.cells #[.int .i64 0, .int .i64 0] 34 (0, 0))) ∧ Aside0 (Below w.heap.size w w'))
 case atStart => exact ⟨(0), (t295), (t296), hW_, hW_, hW_, H', ⟨Nat.le_refl _⟩, ⟨(hK_ BK293.out)⟩, ⟨hC_⟩⟩
 case round =>
  clear H'
  try clear c1
  try clear p2
  try clear q2
  try clear hx2
  try clear qi2
  try clear c3
  try clear c3b0
  try clear c3b1
  try clear c4
  try clear c4b0
  try clear c4b1
  try clear c6
  try clear c7
  try clear c7b0
  try clear c7b1
  try clear c10
  try clear c10b0
  try clear c10b1
  try clear hcz12_0
  try clear hcz12_1
  try clear hcz6_0
  try clear hcz6_1
  try clear hcz9_0
  try clear hcz9_1
  try clear hfz12_0
  try clear hfz12_1
  try clear hfz6_0
  try clear hfz6_1
  try clear hfz9_0
  try clear hfz9_1
  try clear hx294_0
  try clear p294
  try clear q294
  obtain ⟨x5_1, x6_1, x7_1, rfl, rfl, rfl, HA, HK1, BK293, HB⟩ := hrel
  cases gk with
  | zero => exact absurd HA.out (by simp [top_Ask.l0])
  | succ k1 =>
   have H := HA.out
   clear HA
   simp only [top_Ask.l0] at H
   by_cases c16 : x7_1 = true
   case pos =>
    subst c16
    have H1 : ((top_first.f l0 l1 x6_1 2).bind fun bt297 => (top_Ask.l0 k1 l0 l1 x6_1 bt297.1 bt297.2)) = some (r1, r2) := by rw [if_pos rfl] at H; exact H
    clear H
    have H := H1
    clear H1
    replace H := Option.bind_eq_some_iff.mp H
    obtain ⟨⟨t297, t298⟩, A170, H⟩ := H
    replace H : (top_Ask.l0 k1 l0 l1 x6_1 t297 t298) = some (r1, r2) := H
    have A17 := a_ A170
    clear A170
    have H' := a_ H
    clear H
    go_wp2_with (first | ((with_reducible refine gate_callee (f := 61) rfl ?_); refine goesL_ (some 34) rfl rfl Tryz.func61 (by kernel_rfl) rfl #[.slice A0 l0.length c0, .slice (some ad294) l1.length c1, .int .i64 x6_1, .int .i64 2] rfl hL_ ?_; (with_reducible refine (top_first.calls _ _ l0 _ _ l1 x6_1 2 t297 t298 _ ?side1 ?side2 ?side3 ?side4 A17.out).mono ?_); (case side1 => exact cB_ HR0.out); (case side2 => exact HC0.out); (case side3 => exact cB_ HR1.out); (case side4 => exact HC1.out); rintro e w18 ⟨rfl, hb⟩; refine ⟨_, rfl, ?_⟩; replace BK293 := a_ (bB_ BK293.out hb); replace HB := a_ (below_step hC_ hb); (try clear hb); (try clear hb2); (try clear hk); (try clear hi)))
    go_roundg k1
    case measure => have := HK1.out; omega
    case rel => exact ⟨(x6_1), (t297), (t298), hW_, hW_, hW_, H', ⟨by have := HK1.out; omega⟩, ⟨(hK_ BK293.out)⟩, ⟨hC_⟩⟩
   replace c16 := Bool.eq_false_iff.mpr c16
   subst c16
   have H1 : ((top_first.f l0 l1 x5_1 0).bind fun bt299 => (if bt299.2 = true then (some (0, bt299.1)) else ((top_Bug.f l0 l1 x5_1).bind fun bt301 => (some (bt301.1, bt301.2))))) = some (r1, r2) := by rw [if_neg (show ¬ (false = true) by decide)] at H; exact H
   clear H
   have H := H1
   clear H1
   replace H := Option.bind_eq_some_iff.mp H
   obtain ⟨⟨t299, t300⟩, A190, H⟩ := H
   replace H : (if t300 = true then (some (0, t299)) else ((top_Bug.f l0 l1 x5_1).bind fun bt301 => (some (bt301.1, bt301.2)))) = some (r1, r2) := H
   have A19 := a_ A190
   clear A190
   by_cases c20 : t300 = true
   case pos =>
    subst c20
    have H1 : (some (0, t299)) = some (r1, r2) := by rw [if_pos rfl] at H; exact H
    clear H
    have H := H1
    clear H1
    simp only [Option.some.injEq, Prod.mk.injEq] at H
    obtain ⟨rfl, rfl⟩ := H
    go_wp2_with (first | ((with_reducible refine gate_callee (f := 61) rfl ?_); refine goesL_ (some 42) rfl rfl Tryz.func61 (by kernel_rfl) rfl #[.slice A0 l0.length c0, .slice (some ad294) l1.length c1, .int .i64 x5_1, .int .i64 0] rfl hL_ ?_; (with_reducible refine (top_first.calls _ _ l0 _ _ l1 x5_1 0 t299 true _ ?side1 ?side2 ?side3 ?side4 A19.out).mono ?_); (case side1 => exact cB_ HR0.out); (case side2 => exact HC0.out); (case side3 => exact cB_ HR1.out); (case side4 => exact HC1.out); rintro e w21 ⟨rfl, hb⟩; refine ⟨_, rfl, ?_⟩; replace BK293 := a_ (bB_ BK293.out hb); replace HB := a_ (below_step hC_ hb); (try clear hb); (try clear hb2); (try clear hk); (try clear hi); obtain ⟨hcz22_0, hcz22_1, hfz22_0, hfz22_1⟩ := bx2_ BK293.out))
    refine bodyPost_ret (results_cell_row rfl _ _ gb293 34 #[.int .i64 0, .int .i64 t299] (0, 0) _ rfl (bP_ (bP_ (hK_ BK293.out))) Tryz.underlying34 rfl (by kernel_rfl)) rfl ?_
    exact ⟨hV_, hC_⟩
   replace c20 := Bool.eq_false_iff.mpr c20
   subst c20
   have H1 : ((top_Bug.f l0 l1 x5_1).bind fun bt301 => (some (bt301.1, bt301.2))) = some (r1, r2) := by rw [if_neg (show ¬ (false = true) by decide)] at H; exact H
   clear H
   have H := H1
   clear H1
   replace H := Option.bind_eq_some_iff.mp H
   obtain ⟨⟨t301, t302⟩, A230, H⟩ := H
   replace H : (some (t301, t302)) = some (r1, r2) := H
   have A23 := a_ A230
   clear A230
   simp only [Option.some.injEq, Prod.mk.injEq] at H
   obtain ⟨rfl, rfl⟩ := H
   go_wp2_with (first | ((with_reducible refine gate_callee (f := 61) rfl ?_); refine goesL_ (some 42) rfl rfl Tryz.func61 (by kernel_rfl) rfl #[.slice A0 l0.length c0, .slice (some ad294) l1.length c1, .int .i64 x5_1, .int .i64 0] rfl hL_ ?_; (with_reducible refine (top_first.calls _ _ l0 _ _ l1 x5_1 0 t299 false _ ?side1 ?side2 ?side3 ?side4 A19.out).mono ?_); (case side1 => exact cB_ HR0.out); (case side2 => exact HC0.out); (case side3 => exact cB_ HR1.out); (case side4 => exact HC1.out); rintro e w24 ⟨rfl, hb⟩; refine ⟨_, rfl, ?_⟩; replace BK293 := a_ (bB_ BK293.out hb); replace HB := a_ (below_step hC_ hb); (try clear hb); (try clear hb2); (try clear hk); (try clear hi)) | ((with_reducible refine gate_callee (f := 60) rfl ?_); refine goesL_ (some 51) rfl rfl Tryz.func60 (by kernel_rfl) rfl #[.slice A0 l0.length c0, .slice (some ad294) l1.length c1, .int .i64 x5_1] rfl hL_ ?_; (with_reducible refine (top_Bug.calls _ _ l0 _ _ l1 x5_1 t301 t302 _ ?side1 ?side2 ?side3 ?side4 A23.out).mono ?_); (case side1 => exact cB_ HR0.out); (case side2 => exact HC0.out); (case side3 => exact cB_ HR1.out); (case side4 => exact HC1.out); rintro e w25 ⟨rfl, hb⟩; refine ⟨_, rfl, ?_⟩; replace BK293 := a_ (bB_ BK293.out hb); replace HB := a_ (below_step hC_ hb); (try clear hb); (try clear hb2); (try clear hk); (try clear hi); obtain ⟨hcz26_0, hcz26_1, hfz26_0, hfz26_1⟩ := bx2_ BK293.out))
   refine bodyPost_ret (results_cell_row rfl _ _ gb293 34 #[.int .i64 t301, .int .i64 t302] (0, 0) _ rfl (bP_ (bP_ (hK_ BK293.out))) Tryz.underlying34 rfl (by kernel_rfl)) rfl ?_
   exact ⟨hV_, hC_⟩
end Go.Proofs.YtgokcaccamfgfaaGreatDoor.G
end
section
-- Laid by the session's own driver gp.py over the kit's printer. Not trusted: Lean checks it.
namespace Go.Proofs.YtgokcaccamfgfaaGreatDoor.G
open Go.RowKit Go.Proofs.YtgokcaccamfgfaaGreatDoorW.PrintWords Go.Proofs.YtgokcaccamfgfaaGreatDoorW.PrintLast Go.Proofs.YtgokcaccamfgfaaGreatDoorW.PrintMore
set_option maxHeartbeats 8000000
set_option maxRecDepth 100000
attribute [local go_sem] max2_int min2_int max_two min_two max_three min_three max_four min_four   -- for this text's walks alone
set_option linter.unusedVariables false
set_option linter.unusedSimpArgs false

def half_last.l0 : Nat → Int → List Int → Int → Int → Option (Int)
 | 0, _, _, _, _ => none
 | k + 1, x3, x6, x7, x8 => if x8 < x7 then (if 0 ≤ x8 then (if x8 < (x6.length : Int) then (if (rd x6 x8) = 2 then (half_last.l0 k x8 x6 x7 (wrap64 (x8 + 1))) else (half_last.l0 k x3 x6 x7 (wrap64 (x8 + 1)))) else (none)) else (none)) else (some x3)
def half_last.f (k : Nat) (l0 : List Int) : Option (Int) := half_last.l0 k 0 l0 (l0.length : Int) 0
theorem half_last.mono_l : ∀ k, (∀ y0 y1 y2 y3, LeO (half_last.l0 k y0 y1 y2 y3) (half_last.l0 (k + 1) y0 y1 y2 y3))
 | 0 => fun _ _ _ _ r h => by simp [half_last.l0] at h
 | k + 1 => by
  have ih0 := half_last.mono_l k
  · intro y0 y1 y2 y3
    unfold half_last.l0
    repeat' first
    | (with_reducible exact ih0 _ _ _ _)
    | (with_reducible exact LeO.refl _)
    | (with_reducible exact LeO.none _)
    | (with_reducible refine LeO.ite ?_ ?_)
    | (with_reducible refine LeO.bind ?_ (fun _ => ?_))
    | exact ih0 _ _ _ _
    | exact LeO.none _
    | refine LeO.ite ?_ ?_
    | refine LeO.bind ?_ (fun _ => ?_)
theorem half_last.mono : ∀ a0 k, LeO (half_last.f k a0) (half_last.f (k + 1) a0) := by
 intro a0 k
 have ih0 := half_last.mono_l k
 unfold half_last.f
 repeat' first
  | (with_reducible exact ih0 _ _ _ _)
  | (with_reducible exact LeO.refl _)
  | (with_reducible exact LeO.none _)
  | (with_reducible refine LeO.ite ?_ ?_)
  | (with_reducible refine LeO.bind ?_ (fun _ => ?_))
  | exact ih0 _ _ _ _
  | exact LeO.none _
  | refine LeO.ite ?_ ?_
  | refine LeO.bind ?_ (fun _ => ?_)
theorem half_last.calls (k : Nat) (A0 : Option Addr) (c0 : Nat) (l0 : List Int) (r : Int) (w : World) (hr0 : Kd.C (Kd.int .i64) w A0 l0.length l0) (hc0 : l0.length ≤ c0) (h : half_last.f k l0 = some r) :
 Calls Tryz.prog 54 #[.slice A0 l0.length c0] w fun e w' => e = .returned (.int .i64 r) ∧ Drawn0 w w' := by
 have HR0 := a_ hr0
 have HC0 := a_ hc0
 clear hr0 hc0
 have H : (half_last.l0 k 0 l0 (l0.length : Int) 0) = some r := h
 clear h
 have H' := a_ H
 clear H
 go_enter Tryz.func54, Tryz.ntmps54
 go_wp2
 go_loopg [3, 8] k (fun kq v3 v8 w' => ∃ (x3_1 : Int) (x8_1 : Int), v3 = .int .i64 x3_1 ∧ v8 = .int .i64 x8_1 ∧ Aside0 (half_last.l0 kq x3_1 l0 (l0.length : Int) x8_1 = some r) ∧ Aside0 (kq ≤ k) ∧ Drawn0 w w')
 case atStart => exact ⟨(0), (0), hW_, hW_, H', ⟨Nat.le_refl _⟩, by repeat (first | exact Drawn0.refl _ | apply Drawn0.step)⟩
 case round =>
  clear H'
  obtain ⟨x3_1, x8_1, rfl, rfl, HA, HK1, ⟨m1, rfl⟩⟩ := hrel
  cases gk with
  | zero => exact absurd HA.out (by simp [half_last.l0])
  | succ k1 =>
   have H := HA.out
   clear HA
   simp only [half_last.l0] at H
   by_cases c2 : x8_1 < (l0.length : Int)
   case neg =>
    rw [if_neg c2] at H
    have c2b0 : decide (x8_1 < (l0.length : Int)) = false := decide_eq_false c2
    clear c2
    obtain rfl := Option.some.inj H
    go_wp2
    go_ret
    exact ⟨by first | rfl | (simp; done) | (simp [*]; done), by repeat (first | exact Drawn0.refl _ | apply Drawn0.step)⟩

   rw [if_pos c2] at H
   have c2b0 : decide (x8_1 < (l0.length : Int)) = true := decide_eq_true c2
   clear c2
   replace H := ifI_ H; obtain ⟨c3, H⟩ := H
   have c3b0 : decide (0 ≤ x8_1) = true := decide_eq_true c3
   clear c3
   replace H := ifI_ H; obtain ⟨c4, H⟩ := H
   have c4b0 : decide (x8_1 < (l0.length : Int)) = true := decide_eq_true c4
   clear c4
   by_cases c5 : (rd l0 x8_1) = 2
   case neg =>
    rw [if_neg c5] at H
    have c5b0 : ((rd l0 x8_1) == 2) = false := beq_eq_false_iff_ne.mpr c5
    have c5b1 : ((rd l0 x8_1) != 2) = true := bne_iff_ne.mpr c5
    have H' := a_ H
    clear H
    have p303 : 0 ≤ (x8_1 : Int) := of_decide_eq_true hA_
    have q303 : x8_1 < (l0.length : Int) := of_decide_eq_true hA_
    obtain ⟨ad303, e303, hx303_0⟩ := Kd.at_int HR0.out x8_1 p303 q303
    cases e303
    replace p303 := eq_true p303
    replace q303 := eq_true q303
    go_wp2
    go_roundg k1
    case measure => have := HK1.out; omega
    case rel => exact ⟨(x3_1), (wrap64 (x8_1 + 1)), hW_, hW_, H', ⟨by have := HK1.out; omega⟩, by repeat (first | exact Drawn0.refl _ | apply Drawn0.step)⟩
   rw [if_pos c5] at H
   have c5b0 : ((rd l0 x8_1) == 2) = true := beq_iff_eq.mpr c5
   have c5b1 : ((rd l0 x8_1) != 2) = false := bne_eq_false_iff_eq.mpr c5
   clear c5
   have H' := a_ H
   clear H
   have p303 : 0 ≤ (x8_1 : Int) := of_decide_eq_true hA_
   have q303 : x8_1 < (l0.length : Int) := of_decide_eq_true hA_
   obtain ⟨ad303, e303, hx303_0⟩ := Kd.at_int HR0.out x8_1 p303 q303
   cases e303
   replace p303 := eq_true p303
   replace q303 := eq_true q303
   go_wp2
   go_roundg k1
   case measure => have := HK1.out; omega
   case rel => exact ⟨(x8_1), (wrap64 (x8_1 + 1)), hW_, hW_, H', ⟨by have := HK1.out; omega⟩, by repeat (first | exact Drawn0.refl _ | apply Drawn0.step)⟩
end Go.Proofs.YtgokcaccamfgfaaGreatDoor.G
end
section
-- Laid by the session's own driver gp.py over the kit's printer. Not trusted: Lean checks it.
namespace Go.Proofs.YtgokcaccamfgfaaGreatDoor.G
open Go.RowKit Go.Proofs.YtgokcaccamfgfaaGreatDoorW.PrintWords Go.Proofs.YtgokcaccamfgfaaGreatDoorW.PrintLast Go.Proofs.YtgokcaccamfgfaaGreatDoorW.PrintMore
set_option maxHeartbeats 8000000
set_option maxRecDepth 100000
attribute [local go_sem] max2_int min2_int max_two min_two max_three min_three max_four min_four   -- for this text's walks alone
set_option linter.unusedVariables false
set_option linter.unusedSimpArgs false

def half_doubts.l0 : Nat → List (S64) → List Int → Int → List Bool → Int → Option (List Bool)
 | 0, _, _, _, _, _ => none
 | k + 1, x0, x1, x2, x7, x8 => if x8 < (x0.length : Int) then (if 0 ≤ x8 then (if ((rd_T64 x0 x8).f1) = x2 then (if x8 < (x1.length : Int) then (if x8 < (x7.length : Int) then (half_doubts.l0 k x0 x1 x2 (x7.set (x8 : Int).toNat ((rd x1 x8) != 1)) (wrap64 (x8 + 1))) else (none)) else (none)) else (if 0 ≤ ((rd_T64 x0 x8).f1) then (if ((rd_T64 x0 x8).f1) < (x7.length : Int) then (if rdOf false x7 ((rd_T64 x0 x8).f1) = true then (if x8 < (x1.length : Int) then (if x8 < (x7.length : Int) then (half_doubts.l0 k x0 x1 x2 (x7.set (x8 : Int).toNat ((rd x1 x8) != 1)) (wrap64 (x8 + 1))) else (none)) else (none)) else (if x8 < (x7.length : Int) then (half_doubts.l0 k x0 x1 x2 (x7.set (x8 : Int).toNat false) (wrap64 (x8 + 1))) else (none))) else (none)) else (none))) else (none)) else (some x7)
def half_doubts.f (k : Nat) (l0 : List (S64)) (l1 : List Int) (a2 : Int) : Option (List Bool) := if 0 ≤ (l0.length : Int) then (if ((l0.length : Int) : Int).toNat ≤ 281474976710656 then (half_doubts.l0 k l0 l1 a2 (List.replicate ((l0.length : Int) : Int).toNat false) (wrap64 (a2 + 1))) else (none)) else (none)
theorem half_doubts.mono_l : ∀ k, (∀ y0 y1 y2 y3 y4, LeO (half_doubts.l0 k y0 y1 y2 y3 y4) (half_doubts.l0 (k + 1) y0 y1 y2 y3 y4))
 | 0 => fun _ _ _ _ _ r h => by simp [half_doubts.l0] at h
 | k + 1 => by
  have ih0 := half_doubts.mono_l k
  · intro y0 y1 y2 y3 y4
    unfold half_doubts.l0
    repeat' first
    | (with_reducible exact ih0 _ _ _ _ _)
    | (with_reducible exact LeO.refl _)
    | (with_reducible exact LeO.none _)
    | (with_reducible refine LeO.ite ?_ ?_)
    | (with_reducible refine LeO.bind ?_ (fun _ => ?_))
    | exact ih0 _ _ _ _ _
    | exact LeO.none _
    | refine LeO.ite ?_ ?_
    | refine LeO.bind ?_ (fun _ => ?_)
theorem half_doubts.mono : ∀ a0 a1 a2 k, LeO (half_doubts.f k a0 a1 a2) (half_doubts.f (k + 1) a0 a1 a2) := by
 intro a0 a1 a2 k
 have ih0 := half_doubts.mono_l k
 unfold half_doubts.f
 repeat' first
  | (with_reducible exact ih0 _ _ _ _ _)
  | (with_reducible exact LeO.refl _)
  | (with_reducible exact LeO.none _)
  | (with_reducible refine LeO.ite ?_ ?_)
  | (with_reducible refine LeO.bind ?_ (fun _ => ?_))
  | exact ih0 _ _ _ _ _
  | exact LeO.none _
  | refine LeO.ite ?_ ?_
  | refine LeO.bind ?_ (fun _ => ?_)
theorem half_doubts.calls (k : Nat) (A0 : Option Addr) (c0 : Nat) (l0 : List (S64)) (A1 : Option Addr) (c1 : Nat) (l1 : List Int) (a2 : Int) (r : List Bool) (w : World) (hr0 : Kd.C k64 w A0 l0.length l0) (hc0 : l0.length ≤ c0) (hr1 : Kd.C (Kd.int .i64) w A1 l1.length l1) (hc1 : l1.length ≤ c1) (h : half_doubts.f k l0 l1 a2 = some r) :
 Calls Tryz.prog 55 #[.slice A0 l0.length c0, .slice A1 l1.length c1, .int .i64 a2] w fun e w' => ∃ v0_ : Value, e = .returned (v0_) ∧ Kd.R Kd.bool 4 w' w.heap.size (fun _ => True) v0_ r ∧ Below w.heap.size w w' := by
 have HR0 := a_ hr0
 have HC0 := a_ hc0
 clear hr0 hc0
 have HR1 := a_ hr1
 have HC1 := a_ hc1
 clear hr1 hc1
 have HB := a_ (Below.refl w.heap.size w)
 have H : (if 0 ≤ (l0.length : Int) then (if ((l0.length : Int) : Int).toNat ≤ 281474976710656 then (half_doubts.l0 k l0 l1 a2 (List.replicate ((l0.length : Int) : Int).toNat false) (wrap64 (a2 + 1))) else (none)) else (none)) = some r := h
 clear h
 replace H := ifI_ H; obtain ⟨c4, H⟩ := H
 have c4b0 := eq_true c4
 have c4b1 : decide (0 ≤ (l0.length : Int)) = true := decide_eq_true c4
 clear c4
 replace H := ifI_ H; obtain ⟨c5, H⟩ := H
 have c5b0 := eq_true c5
 have c5b1 : decide (((l0.length : Int) : Int).toNat ≤ 281474976710656) = true := decide_eq_true c5
 clear c5
 obtain ⟨y304, hy304⟩ : ∃ y_ : List Bool, y_ = (List.replicate ((l0.length : Int) : Int).toNat false) := ⟨_, rfl⟩
 replace H : (half_doubts.l0 k l0 l1 a2 y304 (wrap64 (a2 + 1))) = some r := by first | (rw [hy304]; with_reducible exact H) | (have H2_ := (Option.bind_some _ _).symm.trans H; rw [hy304]; with_reducible exact H2_) | (have H2_ := (Option.bind_some _ _).symm.trans H; with_reducible exact H2_) | with_reducible exact H | (rw [hy304]; exact H) | exact H
 have Ny304 := a_ hy304
 clear hy304
 have H' := a_ H
 clear H
 go_enter Tryz.func55, Tryz.ntmps55
 go_wp2_with (first | ((with_reducible refine gate_dst (N := 12) rfl ?_); refine Kd.R_make Kd.bool _ 4 rfl (N := 12) rfl 53 _ _ rfl (l0.length : Int) rfl rfl Tryz.underlying53 (.bool false) 1 info4 rfl (by decide) (by omega) false (ok := fun _ => True) (okp := fun _ => True) rfl (fun _ hk => hk) trivial (of_decide_eq_true hA_) (Nat.le_trans (Nat.mul_le_mul_right _ (of_decide_eq_true hA_ : (l0.length : Int).toNat ≤ 281474976710656)) (by omega)) (Below.refl _ _) (Nat.le_refl _) ?_; intro v305 w6 ho7 hb hg_ hnew_; clear hg_ hnew_; (first | rw [← Ny304.out] at ho7 | (simp only [Int.reduceToNat] at ho7; rw [← Ny304.out] at ho7)); have HO306 := a_ (Kd.R_lower ho7 hS_); replace HB := a_ (below_step hB_ hb); clear hb ho7))
 go_loopg [8] k (fun kq v8 w' => ∃ (x7_1 : List Bool) (x8_1 : Int), v8 = .int .i64 x8_1 ∧ Aside0 (half_doubts.l0 kq l0 l1 a2 x7_1 x8_1 = some r) ∧ Aside0 (kq ≤ k) ∧ Aside0 (Kd.R Kd.bool 4 w' w.heap.size (fun _ => True) v305 x7_1) ∧ Aside0 (Below w.heap.size w w'))
 case atStart => exact ⟨(y304), (wrap64 (a2 + 1)), hW_, H', ⟨Nat.le_refl _⟩, ⟨hR_ HO306.out⟩, ⟨hC_⟩⟩
 case round =>
  clear H'
  try clear c1
  try clear p2
  try clear c4
  try clear c4b0
  try clear c4b1
  try clear c5
  try clear c5b0
  try clear c5b1
  try clear p6
  obtain ⟨x7_1, x8_1, rfl, HA, HK1, HO_7, HB⟩ := hrel
  cases gk with
  | zero => exact absurd HA.out (by simp [half_doubts.l0])
  | succ k1 =>
   have H := HA.out
   clear HA
   simp only [half_doubts.l0] at H
   by_cases c8 : x8_1 < (l0.length : Int)
   case neg =>
    rw [if_neg c8] at H
    have c8b0 : decide (x8_1 < (l0.length : Int)) = false := decide_eq_false c8
    clear c8
    obtain rfl := Option.some.inj H
    go_wp2
    go_ret
    exact ⟨_, hV_, hR_ HO_7.out, hC_⟩
   rw [if_pos c8] at H
   have c8b0 : decide (x8_1 < (l0.length : Int)) = true := decide_eq_true c8
   clear c8
   replace H := ifI_ H; obtain ⟨c9, H⟩ := H
   have c9b0 : decide (0 ≤ x8_1) = true := decide_eq_true c9
   clear c9
   by_cases c10 : ((rd_T64 l0 x8_1).f1) = a2
   case pos =>
    rw [if_pos c10] at H
    have c10b0 : (((rd_T64 l0 x8_1).f1) == a2) = true := beq_iff_eq.mpr c10
    have c10b1 : (((rd_T64 l0 x8_1).f1) != a2) = false := bne_eq_false_iff_eq.mpr c10
    clear c10
    replace H := ifI_ H; obtain ⟨c11, H⟩ := H
    have c11b0 : decide (x8_1 < (l1.length : Int)) = true := decide_eq_true c11
    clear c11
    replace H := ifI_ H; obtain ⟨c12, H⟩ := H
    have c12b0 : decide (x8_1 < (x7_1.length : Int)) = true := decide_eq_true c12
    clear c12
    obtain ⟨y309, hy309⟩ : ∃ y_ : List Bool, y_ = (x7_1.set (x8_1 : Int).toNat ((rd l1 x8_1) != 1)) := ⟨_, rfl⟩
    replace H : (half_doubts.l0 k1 l0 l1 a2 y309 (wrap64 (x8_1 + 1))) = some r := by first | (rw [hy309]; with_reducible exact H) | (have H2_ := (Option.bind_some _ _).symm.trans H; rw [hy309]; with_reducible exact H2_) | (have H2_ := (Option.bind_some _ _).symm.trans H; with_reducible exact H2_) | with_reducible exact H | (rw [hy309]; exact H) | exact H
    have Ny309 := a_ hy309
    clear hy309
    have H' := a_ H
    clear H
    have p307 : 0 ≤ (x8_1 : Int) := of_decide_eq_true hA_
    have q307 : x8_1 < (l0.length : Int) := of_decide_eq_true hA_
    obtain ⟨ad307, A307_2, c307_2, e307, hx307_0, hx307_1, hx307_2, hx307_3, hl307_2, hi307_2⟩ := at_T64 HR0.out x8_1 p307 q307
    cases e307
    replace hx307_0 := cl_ HB.out hx307_0
    replace hx307_1 := cl_ HB.out hx307_1
    replace hx307_2 := cl_ HB.out hx307_2
    replace hx307_3 := cl_ HB.out hx307_3
    have HR307_2 := a_ hi307_2
    have HC307_2 := a_ hl307_2
    clear hi307_2 hl307_2
    replace p307 := eq_true p307
    replace q307 := eq_true q307
    have p308 : 0 ≤ (x8_1 : Int) := of_decide_eq_true hA_
    have q308 : x8_1 < (l1.length : Int) := of_decide_eq_true hA_
    obtain ⟨ad308, e308, hx308_0⟩ := Kd.at_int HR1.out x8_1 p308 q308
    cases e308
    replace hx308_0 := cl_ HB.out hx308_0
    replace p308 := eq_true p308
    replace q308 := eq_true q308
    have p13 : 0 ≤ (x8_1 : Int) := of_decide_eq_true hA_
    have q13 : (x8_1 : Int) < ((x7_1.length : Int) : Int) := of_decide_eq_true hA_
    obtain ⟨go13, co13, eo13, gb13, gl13, cl13, HG13⟩ := Kd.R_form HO_7.out (by omega)
    (first | cases eo13 | (injection eo13 with ea_ en_ ec_; (first | subst ea_ | (injection ea_ with ea_; subst ea_)); subst ec_; clear en_))
    have GB13 := a_ gb13
    have GG13 := a_ HG13
    clear gb13 gl13 HG13
    obtain ⟨hx13_0, hf13_0⟩ := Kd.R_celln false HO_7.out (x8_1 : Int) p13 q13
    replace p13 := eq_true p13
    replace q13 := eq_true q13
    have HP14 := Kd.R_putg HO_7.out (x8_1 : Int) ((rd l1 x8_1) != 1)
    go_wp2_with (first | ((with_reducible refine gate_store (t := 4) (p := 44) rfl ?_); refine store_event (t := 4) (p := 44) (v := ?vo_w15) (w1 := (wr.setCell ⟨go13, (x8_1 : Int).toNat, none⟩ (.bool ((rd l1 x8_1) != 1)))) ?hg ?ho ?hn ?hr ?_; (case ho => rfl); (case hg => rfl); (case hn => rfl); (case hr => first | (go_simp; done) | (go_simp; rfl)); intro w15 hw; have hg : wr.grownBy w15 (some go13) := (by rw [hw]; exact HP14.2); have hp_ : Kd.R Kd.bool 4 w15 w.heap.size (fun _ => True) (.slice (some ⟨go13, 0, none⟩) x7_1.length co13) y309 := (by rw [hw, Ny309.out]; exact HP14.1); clear HP14; replace HO_7 := a_ (hp_); replace HB := a_ ((by rw [hw]; exact below_set (HB.out) GB13.out : Below w.heap.size w w15)); clear hg hw hp_))
    go_roundg k1
    case measure => have := HK1.out; omega
    case rel => exact ⟨(y309), (wrap64 (x8_1 + 1)), hW_, H', ⟨by have := HK1.out; omega⟩, ⟨hR_ HO_7.out⟩, ⟨hC_⟩⟩
   rw [if_neg c10] at H
   have c10b0 : (((rd_T64 l0 x8_1).f1) == a2) = false := beq_eq_false_iff_ne.mpr c10
   have c10b1 : (((rd_T64 l0 x8_1).f1) != a2) = true := bne_iff_ne.mpr c10
   replace H := ifI_ H; obtain ⟨c16, H⟩ := H
   have c16b0 : decide (0 ≤ ((rd_T64 l0 x8_1).f1)) = true := decide_eq_true c16
   clear c16
   replace H := ifI_ H; obtain ⟨c17, H⟩ := H
   have c17b0 : decide (((rd_T64 l0 x8_1).f1) < (x7_1.length : Int)) = true := decide_eq_true c17
   clear c17
   obtain ⟨bq18, hbq18⟩ : ∃ b_ : Bool, b_ = (rdOf false x7_1 ((rd_T64 l0 x8_1).f1)) := ⟨_, rfl⟩
   replace H : (if bq18 = true then (if x8_1 < (l1.length : Int) then (if x8_1 < (x7_1.length : Int) then (half_doubts.l0 k1 l0 l1 a2 (x7_1.set (x8_1 : Int).toNat ((rd l1 x8_1) != 1)) (wrap64 (x8_1 + 1))) else (none)) else (none)) else (if x8_1 < (x7_1.length : Int) then (half_doubts.l0 k1 l0 l1 a2 (x7_1.set (x8_1 : Int).toNat false) (wrap64 (x8_1 + 1))) else (none))) = some r := by rw [← hbq18] at H; exact H
   have Nbq18 := a_ hbq18
   clear hbq18
   by_cases c19 : bq18 = true
   case neg =>
    replace c19 := Bool.eq_false_iff.mpr c19
    subst c19
    have H1 : (if x8_1 < (x7_1.length : Int) then (half_doubts.l0 k1 l0 l1 a2 (x7_1.set (x8_1 : Int).toNat false) (wrap64 (x8_1 + 1))) else (none)) = some r := by rw [if_neg (show ¬ (false = true) by decide)] at H; exact H
    clear H
    have H := H1
    clear H1
    replace H := ifI_ H; obtain ⟨c26, H⟩ := H
    have c26b0 : decide (x8_1 < (x7_1.length : Int)) = true := decide_eq_true c26
    clear c26
    obtain ⟨y313, hy313⟩ : ∃ y_ : List Bool, y_ = (x7_1.set (x8_1 : Int).toNat false) := ⟨_, rfl⟩
    replace H : (half_doubts.l0 k1 l0 l1 a2 y313 (wrap64 (x8_1 + 1))) = some r := by first | (rw [hy313]; with_reducible exact H) | (have H2_ := (Option.bind_some _ _).symm.trans H; rw [hy313]; with_reducible exact H2_) | (have H2_ := (Option.bind_some _ _).symm.trans H; with_reducible exact H2_) | with_reducible exact H | (rw [hy313]; exact H) | exact H
    have Ny313 := a_ hy313
    clear hy313
    have H' := a_ H
    clear H
    have p307 : 0 ≤ (x8_1 : Int) := of_decide_eq_true hA_
    have q307 : x8_1 < (l0.length : Int) := of_decide_eq_true hA_
    obtain ⟨ad307, A307_2, c307_2, e307, hx307_0, hx307_1, hx307_2, hx307_3, hl307_2, hi307_2⟩ := at_T64 HR0.out x8_1 p307 q307
    cases e307
    replace hx307_0 := cl_ HB.out hx307_0
    replace hx307_1 := cl_ HB.out hx307_1
    replace hx307_2 := cl_ HB.out hx307_2
    replace hx307_3 := cl_ HB.out hx307_3
    have HR307_2 := a_ hi307_2
    have HC307_2 := a_ hl307_2
    clear hi307_2 hl307_2
    replace p307 := eq_true p307
    replace q307 := eq_true q307
    obtain ⟨Ao28, co28, eo28⟩ := Kd.R_slice HO_7.out
    subst eo28
    have p310 : 0 ≤ (((rd_T64 l0 x8_1).f1) : Int) := of_decide_eq_true hA_
    have q310 : ((rd_T64 l0 x8_1).f1) < (x7_1.length : Int) := of_decide_eq_true hA_
    obtain ⟨ad310, e310, hx310_0⟩ := Kd.at_bool (Kd.R_reads' HO_7.out).2.2 ((rd_T64 l0 x8_1).f1) p310 q310
    (try rw [← Nbq18.out] at hx310_0)
    cases e310
    replace p310 := eq_true p310
    replace q310 := eq_true q310
    have p27 : 0 ≤ (x8_1 : Int) := of_decide_eq_true hA_
    have q27 : (x8_1 : Int) < ((x7_1.length : Int) : Int) := of_decide_eq_true hA_
    obtain ⟨go27, co27, eo27, gb27, gl27, cl27, HG27⟩ := Kd.R_form HO_7.out (by omega)
    (first | cases eo27 | (injection eo27 with ea_ en_ ec_; (first | subst ea_ | (injection ea_ with ea_; subst ea_)); subst ec_; clear en_))
    have GB27 := a_ gb27
    have GG27 := a_ HG27
    clear gb27 gl27 HG27
    (first | simp only [add_plain] at hx310_0 | skip)
    obtain ⟨hx27_0, hf27_0⟩ := Kd.R_celln false HO_7.out (x8_1 : Int) p27 q27
    replace p27 := eq_true p27
    replace q27 := eq_true q27
    have HP29 := Kd.R_putg HO_7.out (x8_1 : Int) false
    go_wp2_with (first | ((with_reducible refine gate_store (t := 4) (p := 44) rfl ?_); refine store_event (t := 4) (p := 44) (v := ?vo_w30) (w1 := (wr.setCell ⟨go27, (x8_1 : Int).toNat, none⟩ (.bool false))) ?hg ?ho ?hn ?hr ?_; (case ho => rfl); (case hg => rfl); (case hn => rfl); (case hr => first | (go_simp; done) | (go_simp; rfl)); intro w30 hw; have hg : wr.grownBy w30 (some go27) := (by rw [hw]; exact HP29.2); have hp_ : Kd.R Kd.bool 4 w30 w.heap.size (fun _ => True) (.slice (some ⟨go27, 0, none⟩) x7_1.length co28) y313 := (by rw [hw, Ny313.out]; exact HP29.1); clear HP29; replace HO_7 := a_ (hp_); replace HB := a_ ((by rw [hw]; exact below_set (HB.out) GB27.out : Below w.heap.size w w30)); clear hg hw hp_))
    go_roundg k1
    case measure => have := HK1.out; omega
    case rel => exact ⟨(y313), (wrap64 (x8_1 + 1)), hW_, H', ⟨by have := HK1.out; omega⟩, ⟨hR_ HO_7.out⟩, ⟨hC_⟩⟩
   subst c19
   have H1 : (if x8_1 < (l1.length : Int) then (if x8_1 < (x7_1.length : Int) then (half_doubts.l0 k1 l0 l1 a2 (x7_1.set (x8_1 : Int).toNat ((rd l1 x8_1) != 1)) (wrap64 (x8_1 + 1))) else (none)) else (none)) = some r := by rw [if_pos rfl] at H; exact H
   clear H
   have H := H1
   clear H1
   replace H := ifI_ H; obtain ⟨c20, H⟩ := H
   have c20b0 : decide (x8_1 < (l1.length : Int)) = true := decide_eq_true c20
   clear c20
   replace H := ifI_ H; obtain ⟨c21, H⟩ := H
   have c21b0 : decide (x8_1 < (x7_1.length : Int)) = true := decide_eq_true c21
   clear c21
   obtain ⟨y312, hy312⟩ : ∃ y_ : List Bool, y_ = (x7_1.set (x8_1 : Int).toNat ((rd l1 x8_1) != 1)) := ⟨_, rfl⟩
   replace H : (half_doubts.l0 k1 l0 l1 a2 y312 (wrap64 (x8_1 + 1))) = some r := by first | (rw [hy312]; with_reducible exact H) | (have H2_ := (Option.bind_some _ _).symm.trans H; rw [hy312]; with_reducible exact H2_) | (have H2_ := (Option.bind_some _ _).symm.trans H; with_reducible exact H2_) | with_reducible exact H | (rw [hy312]; exact H) | exact H
   have Ny312 := a_ hy312
   clear hy312
   have H' := a_ H
   clear H
   have p307 : 0 ≤ (x8_1 : Int) := of_decide_eq_true hA_
   have q307 : x8_1 < (l0.length : Int) := of_decide_eq_true hA_
   obtain ⟨ad307, A307_2, c307_2, e307, hx307_0, hx307_1, hx307_2, hx307_3, hl307_2, hi307_2⟩ := at_T64 HR0.out x8_1 p307 q307
   cases e307
   replace hx307_0 := cl_ HB.out hx307_0
   replace hx307_1 := cl_ HB.out hx307_1
   replace hx307_2 := cl_ HB.out hx307_2
   replace hx307_3 := cl_ HB.out hx307_3
   have HR307_2 := a_ hi307_2
   have HC307_2 := a_ hl307_2
   clear hi307_2 hl307_2
   replace p307 := eq_true p307
   replace q307 := eq_true q307
   obtain ⟨Ao23, co23, eo23⟩ := Kd.R_slice HO_7.out
   subst eo23
   have p310 : 0 ≤ (((rd_T64 l0 x8_1).f1) : Int) := of_decide_eq_true hA_
   have q310 : ((rd_T64 l0 x8_1).f1) < (x7_1.length : Int) := of_decide_eq_true hA_
   obtain ⟨ad310, e310, hx310_0⟩ := Kd.at_bool (Kd.R_reads' HO_7.out).2.2 ((rd_T64 l0 x8_1).f1) p310 q310
   (try rw [← Nbq18.out] at hx310_0)
   cases e310
   replace p310 := eq_true p310
   replace q310 := eq_true q310
   have p311 : 0 ≤ (x8_1 : Int) := of_decide_eq_true hA_
   have q311 : x8_1 < (l1.length : Int) := of_decide_eq_true hA_
   obtain ⟨ad311, e311, hx311_0⟩ := Kd.at_int HR1.out x8_1 p311 q311
   cases e311
   replace hx311_0 := cl_ HB.out hx311_0
   replace p311 := eq_true p311
   replace q311 := eq_true q311
   have p22 : 0 ≤ (x8_1 : Int) := of_decide_eq_true hA_
   have q22 : (x8_1 : Int) < ((x7_1.length : Int) : Int) := of_decide_eq_true hA_
   obtain ⟨go22, co22, eo22, gb22, gl22, cl22, HG22⟩ := Kd.R_form HO_7.out (by omega)
   (first | cases eo22 | (injection eo22 with ea_ en_ ec_; (first | subst ea_ | (injection ea_ with ea_; subst ea_)); subst ec_; clear en_))
   have GB22 := a_ gb22
   have GG22 := a_ HG22
   clear gb22 gl22 HG22
   (first | simp only [add_plain] at hx310_0 | skip)
   obtain ⟨hx22_0, hf22_0⟩ := Kd.R_celln false HO_7.out (x8_1 : Int) p22 q22
   replace p22 := eq_true p22
   replace q22 := eq_true q22
   have HP24 := Kd.R_putg HO_7.out (x8_1 : Int) ((rd l1 x8_1) != 1)
   go_wp2_with (first | ((with_reducible refine gate_store (t := 4) (p := 44) rfl ?_); refine store_event (t := 4) (p := 44) (v := ?vo_w25) (w1 := (wr.setCell ⟨go22, (x8_1 : Int).toNat, none⟩ (.bool ((rd l1 x8_1) != 1)))) ?hg ?ho ?hn ?hr ?_; (case ho => rfl); (case hg => rfl); (case hn => rfl); (case hr => first | (go_simp; done) | (go_simp; rfl)); intro w25 hw; have hg : wr.grownBy w25 (some go22) := (by rw [hw]; exact HP24.2); have hp_ : Kd.R Kd.bool 4 w25 w.heap.size (fun _ => True) (.slice (some ⟨go22, 0, none⟩) x7_1.length co23) y312 := (by rw [hw, Ny312.out]; exact HP24.1); clear HP24; replace HO_7 := a_ (hp_); replace HB := a_ ((by rw [hw]; exact below_set (HB.out) GB22.out : Below w.heap.size w w25)); clear hg hw hp_))
   go_roundg k1
   case measure => have := HK1.out; omega
   case rel => exact ⟨(y312), (wrap64 (x8_1 + 1)), hW_, H', ⟨by have := HK1.out; omega⟩, ⟨hR_ HO_7.out⟩, ⟨hC_⟩⟩
end Go.Proofs.YtgokcaccamfgfaaGreatDoor.G
end
section
-- Laid by the session's own driver gp.py over the kit's printer. Not trusted: Lean checks it.
namespace Go.Proofs.YtgokcaccamfgfaaGreatDoor.G
open Go.RowKit Go.Proofs.YtgokcaccamfgfaaGreatDoorW.PrintWords Go.Proofs.YtgokcaccamfgfaaGreatDoorW.PrintLast Go.Proofs.YtgokcaccamfgfaaGreatDoorW.PrintMore
set_option maxHeartbeats 8000000
set_option maxRecDepth 100000
attribute [local go_sem] max2_int min2_int max_two min_two max_three min_three max_four min_four   -- for this text's walks alone
set_option linter.unusedVariables false
set_option linter.unusedSimpArgs false

/-- what the program does, from the last node on -/
def sizesL (ns : List S64) (c : Int → Int) : Nat → List Int → List Int
 | 0, o => o
 | n + 1, o =>
  let o1 := o.set n (wrap64 (rd o (n : Int) + c (n : Int)))
  sizesL ns c n (if 0 < n then o1.set ((rd_T64 ns (n : Int)).f1).toNat (wrap64 (rd o1 (rd_T64 ns (n : Int)).f1 + rd o1 (n : Int))) else o1)
def sizesP (ns : List S64) (c : Int → Int) : List Int := sizesL ns c ns.length (List.replicate ns.length 0)
theorem sizesL_len (ns : List S64) (c : Int → Int) : ∀ (n : Nat) (o : List Int), (sizesL ns c n o).length = o.length
 | 0, _ => rfl
 | n + 1, o => by
  rw [sizesL, sizesL_len ns c n]
  split <;> simp
theorem infoIntS : (Tryz.prog.info? 3).map (fun i => (i.zero, i.size, i.bytes)) = some (some (.int .i64 0), 1, 8) := by kernel_rfl
section
attribute [local go_sem] Oper.semAt_some
theorem tree_Sizes.in_ (n : Nat) (hn : 2 ≤ n) (g : Nat) (lb : Array Value) (eg : ∀ args w, (callFunc g args).run Tryz.prog w = .ok (.enter g args) w) (c : Int → Int) (A0 : Option Addr) (c0 : Nat) (l0 : List S64) (h512 : l0.length ≤ 512)
 (hP : ∀ i : Int, 0 ≤ i → i < (l0.length : Int) → ((0 ≤ (rd_T64 l0 i).f1 ∧ (rd_T64 l0 i).f1 < i) ∨ (i = 0 ∧ (rd_T64 l0 i).f1 = -1))) (w : World) (hC : Kd.C k64 w A0 l0.length l0)
 (hc : ∀ (i : Int) (W : World), 0 ≤ i → i < (l0.length : Int) → Below w.heap.size w W → Calls Tryz.prog g (#[.int .i64 i] ++ lb) W fun e W' => e = .returned (.int .i64 (c i)) ∧ ∃ m, W' = W.drewN m) :
 CallsIn Fence.wide n Tryz.prog 57 #[.slice A0 l0.length c0, .func (.func g) #[] lb] w fun e w' => ∃ v, e = .returned v ∧ (Kd.int .i64).R 3 w' w.heap.size (fun _ => True) v (sizesP l0 c) ∧ Below w.heap.size w w' := by
 have HC := a_ hC
 have HCC := a_ hc
 have HPP := a_ hP
 clear hC hc hP
 have ffg : Fence.wide.fn g := trivial
 have hmk := print_make_of (P := Tryz.prog) 27 3 (.int .i64 0) 8 Tryz.underlying27 infoIntS rfl (by omega) l0.length (by omega)
 have hmix : Tryz.prog.follows .mixedOrders = true := by kernel_rfl
 refine callsIn_of_wp Tryz.func57 rfl trivial ?_ rfl
 simp only [Tryz.ntmps57, List.size_toArray, List.length_cons, List.length_nil, Nat.reduceAdd, Nat.reduceSub, Array.replicate_succ, Array.replicate_zero, List.push_toArray, List.append_toArray, List.nil_append, List.cons_append]
 have HO := a_ (own_made_of (enc := Value.int .i64) (d := (0 : Int)) w w.heap.size 3 l0.length (Nat.le_refl _) (by omega))
 gi_wp2
 gi_loopw [6] (fun v wr => ∃ x : Int, v = .int .i64 x ∧ Aside0 (-1 ≤ x ∧ x < (l0.length : Int)) ∧ Aside0 (∃ o : List Int, o.length = l0.length ∧ wr.ownsRow w.heap.size 3 1 (.slice (some ⟨w.heap.size, 0, none⟩) l0.length l0.length) l0.length (encs (Value.int .i64) o) ∧ sizesL l0 c (x + 1).toNat o = sizesP l0 c) ∧ Aside0 (Below w.heap.size w wr))
  (fun v _ => (intOf v + 1).toNat)
 case atStart =>
  exact ⟨(l0.length : Int) - 1, by first | rfl | (congr 1; omega) | (simp; omega), ⟨by omega, by omega⟩, ⟨List.replicate l0.length 0, by simp, HO.out, by rw [show ((l0.length : Int) - 1 + 1).toNat = l0.length by omega]; rfl⟩, ⟨(Below.refl _ w).alloc (Nat.le_refl _) _⟩⟩
 case round =>
  obtain ⟨x, rfl, HX, HJ, HB⟩ := hrel
  clear hmk
  by_cases hx : 0 ≤ x
  case neg =>
   have hxb := decide_eq_false hx
   have HN := a_ hx
   clear hx
   gi_wp2
   go_ret
   obtain ⟨o, ho, hrow, hsz⟩ := HJ.out
   rw [show (x + 1).toNat = 0 by have := HX.out; have := HN.out; omega, sizesL] at hsz
   subst hsz
   exact ⟨_, rfl, Kd.R_of_own (by rw [ho]; exact hrow) (fun _ _ => trivial), HB.out⟩
  have hxb := decide_eq_true hx
  have hlt : x < (l0.length : Int) := HX.out.2
  obtain ⟨o, ho, hrow, hsz⟩ := HJ.out
  obtain ⟨hcx, hfx⟩ := own_at_of (d := (0 : Int)) hrow x hx hlt
  have HR := a_ (And.intro ho (And.intro hrow (And.intro hsz hx)))
  clear ho hrow hsz
  replace hlt := eq_true hlt
  replace hx := eq_true hx
  have HQ := a_ (fun k => HCC.out x (wr.drewN k) (of_eq_true hx) (of_eq_true hlt) (below_dn HB.out k))
  gi_wp2
  refine wpIn_region_head 9 rfl hmix (by kernel_rfl) ?_
  simp only [List.take_succ_cons, List.take_zero, List.drop_succ_cons, List.drop_zero]
  iterate 6 (quiet_step_in (fail))
  quiet_step_in (exact ⟨fun _ => by omega, CallsIn.quiet_of (callsIn_wide.2 (HQ.out _))⟩)
  iterate 2 (quiet_step_in (fail))
  refine wpQuietIn_nil ?_
  intro _ hw'
  obtain ⟨nq, hw''⟩ := hw'
  subst hw''
  by_cases hx1 : 0 < x
  case neg =>
   have hx1b := decide_eq_false hx1
   gi_wp2
   obtain ⟨ho, hrow, hsz, hX⟩ := HR.out
   have hst := (own_store_of (enc := Value.int .i64) (W := wr.drewN nq) hrow x (wrap64 (rdOf 0 o x + c x))).1
   have hb2 : Below w.heap.size w ((wr.drewN nq).setCell ⟨w.heap.size, x.toNat, none⟩ (Value.int .i64 (wrap64 (rdOf 0 o x + c x)))) := (below_dn HB.out nq).setCell (p := ⟨w.heap.size, x.toNat, none⟩) (Nat.le_refl _) _
   obtain rfl : x = 0 := by omega
   rw [show wrap64 ((0 : Int) - 1) = -1 from by unfold wrap64; omega]
   refine ⟨⟨-1, rfl, ⟨by omega, by omega⟩, ⟨_, by simpa using ho, hst, ?_⟩, ⟨hb2⟩⟩, by decide⟩
   rw [← hsz]
   rfl
  have hx1b := decide_eq_true hx1
  gi_wp2
  obtain ⟨ho, hrow, hsz, _⟩ := HR.out
  have hst := (own_store_of (enc := Value.int .i64) (W := wr.drewN nq) hrow x (wrap64 (rdOf 0 o x + c x))).1
  have hb2 : Below w.heap.size w ((wr.drewN nq).setCell ⟨w.heap.size, x.toNat, none⟩ (Value.int .i64 (wrap64 (rdOf 0 o x + c x)))) := (below_dn HB.out nq).setCell (p := ⟨w.heap.size, x.toNat, none⟩) (Nat.le_refl _) _
  obtain ⟨W2, hW2⟩ : ∃ W2, (wr.drewN nq).setCell ⟨w.heap.size, x.toNat, none⟩ (Value.int .i64 (wrap64 (rdOf 0 o x + c x))) = W2 := ⟨_, rfl⟩
  obtain ⟨o1, ho1⟩ : ∃ o1, o1 = o.set x.toNat (wrap64 (rdOf 0 o x + c x)) := ⟨_, rfl⟩
  rw [hW2] at hst hb2 ⊢
  rw [← ho1] at hst
  have hX := HR.out.2.2.2
  have hpx := HPP.out x hX (of_eq_true hlt)
  obtain ⟨ad, A2, c2, e0, g0, g1, g2, g3, hl2, hi2⟩ := at_T64 HC.out x hX (of_eq_true hlt)
  cases e0
  replace g1 := (hb2.cell (World.block_lt_of_cell? w _ g1)).trans g1
  have hp0 : 0 ≤ (rd_T64 l0 x).f1 := by omega
  have hp1 : (rd_T64 l0 x).f1 < (l0.length : Int) := by have := of_eq_true hlt; omega
  obtain ⟨hc1, hf1⟩ := own_at_of (d := (0 : Int)) hst x hX (of_eq_true hlt)
  obtain ⟨hc2, hf2⟩ := own_at_of (d := (0 : Int)) hst (rd_T64 l0 x).f1 hp0 hp1
  have HS := a_ (And.intro hst (And.intro hb2 (And.intro ho1 (And.intro hp0 (And.intro hp1 hx1)))))
  clear hst hb2 hW2 ho1 hpx g0 g2 g3 hl2 hi2 hcx hfx ho hrow hsz hX hx1 hx1b
  replace hp0 := eq_true hp0
  replace hp1 := eq_true hp1
  refine wpIn_region_head 14 rfl hmix (by kernel_rfl) ?_
  simp only [List.take_succ_cons, List.take_zero, List.drop_succ_cons, List.drop_zero]
  iterate 14 (quiet_step_in (fail))
  refine wpQuietIn_nil ?_
  intro _ hw'
  obtain ⟨nq2, hw''⟩ := hw'
  subst hw''
  gi_wp2
  obtain ⟨hst, hb2, ho1, hp0', hp1', hx1'⟩ := HS.out
  obtain ⟨ho, hrow, hsz, hX⟩ := HR.out
  have hw1 : wrap64 (x - 1) = x - 1 := by have := HX.out; unfold wrap64; omega
  rw [hw1]
  refine ⟨⟨x - 1, rfl, ⟨by omega, by have := HX.out; omega⟩, ⟨_, by rw [List.length_set, ho1, List.length_set]; exact ho, (own_store_of (enc := Value.int .i64) (W := W2.drewN nq2) hst (rd_T64 l0 x).f1 _).1, ?_⟩, ⟨(below_dn hb2 nq2).setCell (p := ⟨w.heap.size, (rd_T64 l0 x).f1.toNat, none⟩) (Nat.le_refl _) _⟩⟩, by simp only [intOf]; omega⟩
  rw [← hsz, show (x + 1).toNat = x.toNat + 1 by omega, show (x - 1 + 1).toNat = x.toNat by omega, sizesL]
  simp only [show ((x.toNat : Nat) : Int) = x by omega]
  rw [if_pos (show 0 < x.toNat by omega), ho1]
  rfl
end

end Go.Proofs.YtgokcaccamfgfaaGreatDoor.G
end
section
-- Laid by the session's own driver gp.py over the kit's printer. Not trusted: Lean checks it.
namespace Go.Proofs.YtgokcaccamfgfaaGreatDoor.G
open Go.RowKit Go.Proofs.YtgokcaccamfgfaaGreatDoorW.PrintWords Go.Proofs.YtgokcaccamfgfaaGreatDoorW.PrintLast Go.Proofs.YtgokcaccamfgfaaGreatDoorW.PrintMore
set_option maxHeartbeats 8000000
set_option maxRecDepth 100000
attribute [local go_sem] max2_int min2_int max_two min_two max_three min_three max_four min_four   -- for this text's walks alone
set_option linter.unusedVariables false
set_option linter.unusedSimpArgs false

def openB (d : List Bool) (ms : List Int) (i : Int) : Bool := rdOf false d i && (rd ms i == 0)
def oneB (d : List Bool) (ms : List Int) (i : Int) : Int := if openB d ms i = true then 1 else 0
def szH (ns : List S64) (d : List Bool) (ms : List Int) : List Int := sizesP ns (oneB d ms)
def offW (x m : Int) : Int := mx (wrap64 (wrap64 (2 * x) - m)) (wrap64 (m - wrap64 (2 * x)))
theorem off_calls (x m : Int) (W : World) : Calls Tryz.prog 59 #[.int .i64 x, .int .i64 m] W fun e W' => e = .returned (.int .i64 (offW x m)) ∧ W' = W := by
 unfold offW mx
 by_cases c : wrap64 (wrap64 (2 * x) - m) < wrap64 (m - wrap64 (2 * x))
 case pos =>
  rw [if_pos c]
  go_enter Tryz.func59, Tryz.ntmps59
  go_wp2
  go_ret
  exact ⟨rfl, rfl⟩
 rw [if_neg c]
 go_enter Tryz.func59, Tryz.ntmps59
 go_wp2
 go_ret
 exact ⟨rfl, rfl⟩
def bestH (sz : List Int) (d : List Bool) (ms : List Int) (m : Int) : Nat → Int
 | 0 => -1
 | n + 1 => if openB d ms (n : Int) = true ∧ (bestH sz d ms m n < 0 ∨ offW (rd sz (n : Int)) m < offW (rd sz (bestH sz d ms m n)) m) then (n : Int) else bestH sz d ms m n
theorem bestH_range (sz : List Int) (d : List Bool) (ms : List Int) (m : Int) : ∀ n : Nat, -1 ≤ bestH sz d ms m n ∧ bestH sz d ms m n < (n : Int)
 | 0 => ⟨Int.le_refl _, by show (-1 : Int) < 0; omega⟩
 | n + 1 => by
  have := bestH_range sz d ms m n
  rw [bestH]
  split <;> omega
def parB (ns : List S64) : Bool := (List.range ns.length).all fun i => decide ((0 ≤ (rd_T64 ns (i : Int)).f1 ∧ (rd_T64 ns (i : Int)).f1 < (i : Int)) ∨ ((i : Int) = 0 ∧ (rd_T64 ns (i : Int)).f1 = -1))
theorem parB_at {ns : List S64} (h : parB ns = true) (i : Int) (h0 : 0 ≤ i) (h1 : i < (ns.length : Int)) : ((0 ≤ (rd_T64 ns i).f1 ∧ (rd_T64 ns i).f1 < i) ∨ (i = 0 ∧ (rd_T64 ns i).f1 = -1)) := by
 have := of_decide_eq_true (List.all_eq_true.1 h i.toNat (List.mem_range.2 (by omega)))
 rw [show ((i.toNat : Nat) : Int) = i by omega] at this
 exact this
def half_Ask.f (k : Nat) (l0 : List S64) (l1 : List Int) : Option (Int × Int) :=
 if 0 < l0.length ∧ l0.length ≤ 512 ∧ l1.length = l0.length ∧ parB l0 = true then
  (if rd l1 0 = 2 then (half_last.f k l1).bind fun w => (half_doubts.f k l0 l1 w).bind fun d =>
   if 0 ≤ w ∧ w < (l0.length : Int) ∧ d.length = l0.length then
    (if bestH (szH l0 d l1) d l1 (rd (szH l0 d l1) w) l0.length < 0 then top_Bug.f l0 l1 w else some (0, bestH (szH l0 d l1) d l1 (rd (szH l0 d l1) w) l0.length)) else none
  else top_Ask.f k l0 l1) else none
theorem half_Ask.mono : ∀ a0 a1 k, LeO (half_Ask.f k a0 a1) (half_Ask.f (k + 1) a0 a1) := by
 intro a0 a1 k
 unfold half_Ask.f
 refine LeO.ite (LeO.ite (LeO.bind (half_last.mono _ _) (fun _ => LeO.bind (half_doubts.mono _ _ _ _) (fun _ => LeO.refl _))) (top_Ask.mono _ _ _)) (LeO.none _)
theorem open_calls (W : World) (Bd Bm : Nat) (d : List Bool) (ms : List Int) (Ad : Option Addr) (cd : Nat) (A1 : Option Addr) (c1 : Nat) (hd : W.cell? ⟨Bd, 0, none⟩ = some (.slice Ad d.length cd)) (hm : W.cell? ⟨Bm, 0, none⟩ = some (.slice A1 ms.length c1))
 (hD : Kd.C Kd.bool W Ad d.length d) (hM : Kd.C (Kd.int .i64) W A1 ms.length ms) (i : Int) (h0 : 0 ≤ i) (h1 : i < (d.length : Int)) (h2 : i < (ms.length : Int)) :
 Calls Tryz.prog 56 #[.int .i64 i, .pointer (some ⟨Bd, 0, none⟩), .pointer (some ⟨Bm, 0, none⟩)] W fun e W' => e = .returned (.bool (openB d ms i)) ∧ W' = W := by
 obtain ⟨ad, e0, g0⟩ := Kd.at_bool hD i h0 h1
 cases e0
 obtain ⟨am, e1, g1⟩ := Kd.at_int hM i h0 h2
 cases e1
 unfold openB
 clear hD hM
 replace h0 := eq_true h0
 replace h1 := eq_true h1
 replace h2 := eq_true h2
 cases hb : rdOf false d i with
 | true =>
  rw [hb] at g0
  rw [Bool.true_and]
  go_enter Tryz.func56, Tryz.ntmps56
  go_wp2
  go_ret
  exact ⟨rfl, rfl⟩
 | false =>
  rw [hb] at g0
  rw [Bool.false_and]
  go_enter Tryz.func56, Tryz.ntmps56
  go_wp2
  go_ret
  exact ⟨rfl, rfl⟩
theorem one_calls (W : World) (Bf Bd Bm : Nat) (d : List Bool) (ms : List Int) (Ad : Option Addr) (cd : Nat) (A1 : Option Addr) (c1 : Nat) (hf : W.cell? ⟨Bf, 0, none⟩ = some (.func (.func 56) #[] #[.pointer (some ⟨Bd, 0, none⟩), .pointer (some ⟨Bm, 0, none⟩)])) (hd : W.cell? ⟨Bd, 0, none⟩ = some (.slice Ad d.length cd)) (hm : W.cell? ⟨Bm, 0, none⟩ = some (.slice A1 ms.length c1))
 (hD : Kd.C Kd.bool W Ad d.length d) (hM : Kd.C (Kd.int .i64) W A1 ms.length ms) (i : Int) (h0 : 0 ≤ i) (h1 : i < (d.length : Int)) (h2 : i < (ms.length : Int)) :
 Calls Tryz.prog 58 #[.int .i64 i, .pointer (some ⟨Bf, 0, none⟩)] W fun e W' => e = .returned (.int .i64 (oneB d ms i)) ∧ ∃ m, W' = W.drewN m := by
 have h : Calls Tryz.prog 58 #[.int .i64 i, .pointer (some ⟨Bf, 0, none⟩)] W fun e W' => e = .returned (.int .i64 (oneB d ms i)) ∧ W' = W := by
  have HO := a_ (open_calls W Bd Bm d ms Ad cd A1 c1 hd hm hD hM i h0 h1 h2)
  clear hd hm hD hM
  unfold oneB
  cases ho : openB d ms i with
  | true =>
   rw [ho] at HO
   rw [if_pos rfl]
   go_enter Tryz.func58, Tryz.ntmps58
   go_wp2_with (first
    | (go_at_call 56; refine HO.out.mono ?_; rintro e w5 ⟨rfl, rfl⟩))
   go_ret
   exact ⟨rfl, rfl⟩
  | false =>
   rw [ho] at HO
   rw [if_neg Bool.false_ne_true]
   go_enter Tryz.func58, Tryz.ntmps58
   go_wp2_with (first
    | (go_at_call 56; refine HO.out.mono ?_; rintro e w5 ⟨rfl, rfl⟩))
   go_ret
   exact ⟨rfl, rfl⟩
 exact h.mono fun e W' ⟨h1, h2⟩ => ⟨h1, 0, h2⟩
def Half8 (w : World) (am : Addr) (c1 : Nat) (l1 : List Int) (Ad : Option Addr) (cd : Nat) (d : List Bool) (Bd Bf : Nat) (w8 : World) : Prop :=
 (Below w.heap.size w w8 ∧ Boxed w8 w.heap.size 27 (.slice (some am) l1.length c1) ∧ Boxed2 w8 (w.heap.size + 1) 34 (.int .i64 0) (.int .i64 0)) ∧
 (Boxed w8 Bd 53 (.slice Ad d.length cd) ∧ Boxed w8 Bf 56 (.func (.func 56) #[] #[.pointer (some ⟨Bd, 0, none⟩), .pointer (some ⟨w.heap.size, 0, none⟩)])) ∧ Kd.C Kd.bool w8 Ad d.length d ∧ Kd.C (Kd.int .i64) w8 (some am) l1.length l1
theorem half_sizes (n : Nat) (hn : 2 ≤ n) (w W2 w6 W6a W7 : World) (nd : Nat) (A0 : Option Addr) (c0 : Nat) (l0 : List (S64)) (am : Addr) (c1 : Nat) (l1 : List Int) (Ad : Option Addr) (cd : Nat) (d : List Bool)
 (hr0 : Kd.C k64 w A0 l0.length l0) (hr1 : Kd.C (Kd.int .i64) w (some am) l1.length l1) (h512 : l0.length ≤ 512) (hp : parB l0 = true) (hl : l1.length = l0.length) (hdl : d.length = l0.length)
 (h2 : Below w.heap.size w W2 ∧ Boxed W2 w.heap.size 27 (.slice (some am) l1.length c1) ∧ Boxed2 W2 (w.heap.size + 1) 34 (.int .i64 0) (.int .i64 0))
 (hR6 : Kd.R Kd.bool 4 w6 (W2.drewN nd).heap.size (fun _ => True) (.slice Ad d.length cd) d) (hb6 : Below (W2.drewN nd).heap.size (W2.drewN nd) w6)
 (h6a : (w6.alloc (.cells #[.slice none 0 0] 53)).setCell ⟨w6.heap.size, 0, none⟩ (.slice Ad d.length cd) = W6a)
 (h7 : W6a.alloc (.cells #[.func (.func 56) #[] #[.pointer (some ⟨w6.heap.size, 0, none⟩), .pointer (some ⟨w.heap.size, 0, none⟩)]] 56) = W7) :
 CallsIn Fence.wide n Tryz.prog 57 #[.slice A0 l0.length c0, .func (.func 58) #[] #[.pointer (some ⟨W6a.heap.size, 0, none⟩)]] W7 fun e w8 =>
  ∃ Az cz, e = .returned (.slice Az l0.length cz) ∧ Kd.C (Kd.int .i64) w8 Az l0.length (szH l0 d l1) ∧ Half8 w am c1 l1 Ad cd d w6.heap.size W6a.heap.size w8 := by
 have sz : ∀ (W : World) (p : Addr) (v : Value), (W.setCell p v).heap.size = W.heap.size := fun W p v => by show (W.heap.modify _ _).size = _; rw [Array.size_modify]
 have e6 : W6a.heap.size = w6.heap.size + 1 := by rw [← h6a, sz]; simp
 have e7 : W7.heap.size = w6.heap.size + 2 := by rw [← h7, World.size_alloc, e6]
 have s2 := h2.2.2.lt
 have s6 : W2.heap.size ≤ w6.heap.size := hb6.size
 have B6a : Below w6.heap.size w6 W6a := by rw [← h6a]; exact ((Below.refl _ w6).alloc (Nat.le_refl _) _).setCell (p := ⟨w6.heap.size, 0, none⟩) (Nat.le_refl _) _
 have B7 : Below w6.heap.size w6 W7 := by rw [← h7]; exact B6a.alloc (by omega) _
 have bd6 : Boxed W6a w6.heap.size 53 (.slice Ad d.length cd) := by rw [← h6a]; exact (Boxed.new w6 _ _).set _
 have bd : Boxed W7 w6.heap.size 53 (.slice Ad d.length cd) := by rw [← h7]; exact bd6.alloc _
 have bf : Boxed W7 W6a.heap.size 56 (.func (.func 56) #[] #[.pointer (some ⟨w6.heap.size, 0, none⟩), .pointer (some ⟨w.heap.size, 0, none⟩)]) := by rw [← h7]; exact Boxed.new W6a _ _
 have hB6 : Below w.heap.size w w6 := (below_dn h2.1 nd).trans (hb6.mono h2.1.size)
 have hB7 : Below w.heap.size w W7 := hB6.trans (B7.mono hB6.size)
 have m6 : Boxed w6 w.heap.size 27 (.slice (some am) l1.length c1) := (hb6.block _ (by show w.heap.size < W2.heap.size; omega)).trans h2.2.1
 have r6 : Boxed2 w6 (w.heap.size + 1) 34 (.int .i64 0) (.int .i64 0) := (hb6.block _ (by show w.heap.size + 1 < W2.heap.size; omega)).trans h2.2.2
 have m7 : Boxed W7 w.heap.size 27 (.slice (some am) l1.length c1) := (B7.block _ (by omega)).trans m6
 have r7 : Boxed2 W7 (w.heap.size + 1) 34 (.int .i64 0) (.int .i64 0) := (B7.block _ (by omega)).trans r6
 have d7 : Kd.C Kd.bool W7 Ad d.length d := Kd.C_below (Kd.R_reads' hR6).2.2 B7
 have c7 : Kd.C (Kd.int .i64) W7 (some am) l1.length l1 := Kd.C_below hr1 hB7
 refine (tree_Sizes.in_ n hn 58 #[.pointer (some ⟨W6a.heap.size, 0, none⟩)] (enters_of Tryz.func58 (by kernel_rfl) rfl) (oneB d l1) A0 c0 l0 h512 (parB_at hp) W7 (Kd.C_below hr0 hB7)
  (fun i W h0 h1 hb => one_calls W W6a.heap.size w6.heap.size w.heap.size d l1 Ad cd (some am) c1 (Boxed.cell (show Boxed W W6a.heap.size _ _ from (hb.block _ (by omega)).trans bf)) (Boxed.cell (show Boxed W w6.heap.size _ _ from (hb.block _ (by omega)).trans bd)) (Boxed.cell (show Boxed W w.heap.size _ _ from (hb.block _ (by omega)).trans m7)) (Kd.C_below d7 hb) (Kd.C_below c7 hb) i h0 (by omega) (by omega))).mono ?_
 rintro e w8 ⟨v, rfl, hr, hb⟩
 obtain ⟨Az, cz, rfl, hlz, hC⟩ := Kd.R_reads hr
 have hlen : (szH l0 d l1).length = l0.length := by show (sizesP l0 (oneB d l1)).length = _; unfold sizesP; rw [sizesL_len, List.length_replicate]
 have hC' : Kd.C (Kd.int .i64) w8 Az (szH l0 d l1).length (szH l0 d l1) := hC
 rw [hlen] at hC'
 have e9 : (sizesP l0 (oneB d l1)).length = l0.length := hlen
 refine ⟨Az, cz, by rw [e9], hC', ⟨hB7.trans (hb.mono hB7.size), (hb.block _ (by omega)).trans m7, (hb.block _ (by omega)).trans r7⟩, ⟨(hb.block _ (by omega)).trans bd, (hb.block _ (by omega)).trans bf⟩, Kd.C_below d7 hb, Kd.C_below c7 hb⟩
theorem run_store_func (P : Program) (w : World) (a : Addr) (m : Mode) (f : Fn) (x y : Array Value) : (store a (.func f x y) m).run P w = stored P w a (.func f x y) m := run_store P w a _ m rfl
section
attribute [local go_sem] Oper.semAt_some run_store_func
theorem half_Ask.inW (n : Nat) (hn : 4 ≤ n) (k : Nat) (A0 : Option Addr) (c0 : Nat) (l0 : List (S64)) (A1 : Option Addr) (c1 : Nat) (l1 : List Int) (wg : Int) (d : List Bool) (r1 r2 : Int) (w : World) (hr0 : Kd.C k64 w A0 l0.length l0) (hc0 : l0.length ≤ c0) (hr1 : Kd.C (Kd.int .i64) w A1 l1.length l1) (hc1 : l1.length ≤ c1)
 (h0 : rd l1 0 = 2) (hn0 : 0 < l0.length) (h512 : l0.length ≤ 512) (hl : l1.length = l0.length) (hp : parB l0 = true) (hL : half_last.f k l1 = some wg) (hD : half_doubts.f k l0 l1 wg = some d) (hw0 : 0 ≤ wg) (hw1 : wg < (l0.length : Int)) (hdl : d.length = l0.length)
 (hr : (if bestH (szH l0 d l1) d l1 (rd (szH l0 d l1) wg) l0.length < 0 then top_Bug.f l0 l1 wg else some (0, bestH (szH l0 d l1) d l1 (rd (szH l0 d l1) wg) l0.length)) = some (r1, r2)) :
 CallsIn Fence.wide n Tryz.prog 43 #[.slice A0 l0.length c0, .slice A1 l1.length c1] w fun e w' => e = .returned (.agg #[.int .i64 r1, .int .i64 r2]) ∧ Below w.heap.size w w' := by
 have hn1 : 1 ≤ n := by omega
 obtain ⟨am, e, g⟩ := Kd.at_int hr1 0 (by omega) (by omega)
 cases e
 have HR0 := a_ hr0
 have HC0 := a_ hc0
 have HR1 := a_ hr1
 have HC1 := a_ hc1
 have HL := a_ hL
 have HD := a_ hD
 have HRR := a_ hr
 have HM := a_ (And.intro hw0 (And.intro hw1 (And.intro hl (And.intro h512 (And.intro hdl (And.intro hn0 hp))))))
 have hmix : Tryz.prog.follows .mixedOrders = true := by kernel_rfl
 have hu := Tryz.underlying34
 have hB2 : Below w.heap.size w ((w.alloc (.cells #[.slice (some am) l1.length c1] 27)).alloc (.cells #[.int .i64 0, .int .i64 0] 34)) := ((Below.refl _ w).alloc (Nat.le_refl _) _).alloc (by simp) _
 have bx0 := ((Boxed.new w 27 (.slice (some am) l1.length c1)).alloc (.cells #[.int .i64 0, .int .i64 0] 34))
 have bx1 := Boxed2.new (w.alloc (.cells #[.slice (some am) l1.length c1] 27)) 34 (.int .i64 0) (.int .i64 0)
 simp only [World.size_alloc] at bx1
 have g1 := (hB2.cell (World.block_lt_of_cell? w _ g)).trans g
 rw [h0] at g1
 have cb := bx0.cell
 have HB2 := a_ (And.intro hB2 (And.intro bx0 bx1))
 have hpos : ((0 : Int) < (l1.length : Int)) = True := eq_true (by omega)
 have hposn : (0 < l1.length) = True := eq_true (by omega)
 clear hr0 hc0 hr1 hc1 hL hD hr hw0 hw1 hl h512 hdl hn0 hp g h0 bx0 bx1 hB2
 obtain ⟨W2, hW2⟩ : ∃ W2, (w.alloc (.cells #[.slice (some am) l1.length c1] 27)).alloc (.cells #[.int .i64 0, .int .i64 0] 34) = W2 := ⟨_, rfl⟩
 rw [hW2] at g1 cb HB2
 rw [show am.add (Int.toNat 0) = am from by cases am; rfl] at g1
 refine callsIn_of_wp Tryz.func43 rfl trivial ?_ rfl
 simp only [Tryz.ntmps43, List.size_toArray, List.length_cons, List.length_nil, Nat.reduceAdd, Nat.reduceSub, Array.replicate_succ, Array.replicate_zero, List.push_toArray, List.append_toArray, List.nil_append, List.cons_append]
 have ff1 : Fence.wide.fn 54 := trivial
 have ff2 : Fence.wide.fn 55 := trivial
 have ff3 : Fence.wide.fn 57 := trivial
 have ff4 : Fence.wide.fn 56 := trivial
 have ff5 : Fence.wide.fn 59 := trivial
 have ff6 : Fence.wide.fn 60 := trivial
 have ls2 : w.heap.size + 1 < W2.heap.size := HB2.out.2.2.lt
 have LS2 := a_ ls2
 clear ls2
 gi_wp2_with (first
  | (gi_at_call 54; refine ((callsIn_wide (n := n - 1)).2 (half_last.calls k _ _ l1 wg _ (Kd.C_below HR1.out HB2.out.1) HC1.out HL.out)).mono ?_; rintro e w5 ⟨rfl, ⟨nd, rfl⟩⟩; have cb5 : (W2.drewN nd).cell? ⟨w.heap.size, 0, none⟩ = some (.slice (some am) l1.length c1) := HB2.out.2.1.cell)
  | (gi_at_call 55; refine ((callsIn_wide (n := n - 1)).2 (half_doubts.calls k _ _ l0 _ _ l1 wg d _ (Kd.C_below HR0.out (below_dn HB2.out.1 _)) HC0.out (Kd.C_below HR1.out (below_dn HB2.out.1 _)) HC1.out HD.out)).mono ?_; rintro e w6 ⟨v6, rfl, hR6, hb6⟩; obtain ⟨Ad, cd, e6⟩ := Kd.R_slice hR6; subst e6; have cb6 : w6.cell? ⟨w.heap.size, 0, none⟩ = some (.slice (some am) l1.length c1) := (hb6.cell (p := ⟨w.heap.size, 0, none⟩) (Nat.lt_of_succ_lt LS2.out)).trans HB2.out.2.1.cell; have HX6 := a_ (And.intro hR6 hb6); clear hR6 hb6; obtain ⟨W6a, hW6a⟩ : ∃ W6a, (w6.alloc (.cells #[.slice none 0 0] 53)).setCell ⟨w6.heap.size, 0, none⟩ (.slice Ad d.length cd) = W6a := ⟨_, rfl⟩)
  | (gi_at_call 57; generalize hW7 : World.alloc _ _ = W7; refine (half_sizes (n - 1) (by omega) w W2 w6 W6a W7 _ A0 c0 l0 am c1 l1 Ad cd d HR0.out HR1.out HM.out.2.2.2.1 HM.out.2.2.2.2.2.2 HM.out.2.2.1 HM.out.2.2.2.2.1 HB2.out HX6.out.1 HX6.out.2 hW6a hW7).mono ?_; rintro e w8 ⟨Az, cz, rfl, hz8, h8⟩; obtain ⟨az, e8, g8⟩ := Kd.at_int hz8 wg HM.out.1 HM.out.2.1; subst e8; have p8 := eq_true HM.out.1; have q8 := eq_true HM.out.2.1; have HZ := a_ (And.intro hz8 h8); clear hz8 h8 hW7 hW6a cb cb5 cb6 g1 hpos hposn hW2))
 clear g8 p8 q8
 obtain ⟨sz, hsz⟩ : ∃ sz, szH l0 d l1 = sz := ⟨_, rfl⟩
 rw [hsz] at HZ HRR
 simp only [hsz]
 obtain ⟨m, hm⟩ : ∃ m, rd sz wg = m := ⟨_, rfl⟩
 rw [hm] at HRR
 simp only [hm]
 gi_loopw [10, 36] (fun v10 v36 wr => ∃ b x : Int, v10 = .int .i64 b ∧ v36 = .int .i64 x ∧ Aside0 (0 ≤ x ∧ x ≤ (l0.length : Int)) ∧ Aside0 (b = bestH sz d l1 m x.toNat ∧ ∃ q, wr = w8.drewN q))
  (fun _ v _ => l0.length - (intOf v).toNat)
 case atStart => exact ⟨-1, 0, by first | rfl | (congr 1; omega), by first | rfl | (congr 1; omega), ⟨by omega, by omega⟩, ⟨rfl, 0, rfl⟩⟩
 case round =>
  obtain ⟨b, x, rfl, rfl, HX, HBq⟩ := hrel
  obtain ⟨hb, q, hq⟩ := HBq.out
  have hbr := bestH_range sz d l1 m x.toNat
  rw [← hb] at hbr
  obtain ⟨⟨hB8, bm8, br8⟩, ⟨bd8, bf8⟩, hd8, hc8⟩ := HZ.out.2
  have hz8 := HZ.out.1
  by_cases hlt : x < (l0.length : Int)
  case neg =>
   have hltb := decide_eq_false hlt
   have hxl : x.toNat = l0.length := by have := HX.out; omega
   rw [hxl] at hb
   clear hbr
   rw [← hb] at HRR
   have hm' : wr.cell? ⟨w.heap.size, 0, none⟩ = some (.slice (some am) l1.length c1) := by rw [hq]; exact bm8.cell
   have hr' : Boxed2 wr (w.heap.size + 1) 34 (.int .i64 0) (.int .i64 0) := by rw [hq]; exact br8
   have hB' : Below w.heap.size w wr := by rw [hq]; exact below_dn hB8 q
   have HE := a_ (And.intro hr' hB')
   clear hlt hq hz8 hB8 bm8 br8 bd8 bf8 hd8 hc8 hxl
   have f0_ := hr'.f0
   have f1_ := hr'.f1
   have c0_ := hr'.c0
   have c1_ := hr'.c1
   clear hr' hB'
   by_cases hb0 : b < 0
   case neg =>
    have hrr := HRR.out
    rw [if_neg hb0] at hrr
    clear hb HBq
    obtain ⟨e1_, e2_⟩ := Prod.mk.inj (Option.some.inj hrr)
    subst e1_
    subst e2_
    have hb0b := decide_eq_false hb0
    clear hb0 hrr HRR
    gi_wp2
    refine bodyPost_ret (results_cell_row rfl _ _ (w.heap.size + 1) 34 #[.int .i64 0, .int .i64 b] (0, 0) _ rfl (HE.out.1.put _ _) Tryz.underlying34 rfl (by kernel_rfl)) rfl ⟨rfl, ?_⟩
    exact (HE.out.2.setCell (p := ⟨w.heap.size + 1, 0, none⟩) (Nat.le_succ _) _).setCell (p := ⟨w.heap.size + 1, 1, none⟩) (Nat.le_succ _) _
   have hb0b := decide_eq_true hb0
   have hrr := HRR.out
   rw [if_pos hb0] at hrr
   have HB0 := a_ hrr
   clear hb0 hrr hb
   gi_wp2_with (first
    | (gi_at_call 60; refine ((callsIn_wide (n := n - 1)).2 (top_Bug.calls _ _ l0 _ _ l1 wg r1 r2 _ (Kd.C_below HR0.out HE.out.2) HC0.out (Kd.C_below HR1.out HE.out.2) HC1.out HB0.out)).mono ?_; rintro e w9 ⟨rfl, hb9⟩; have hr9 : Boxed2 w9 (w.heap.size + 1) 34 (.int .i64 0) (.int .i64 0) := (hb9.block _ HE.out.1.lt).trans HE.out.1; have HE9 := a_ (And.intro hr9 (HE.out.2.trans (hb9.mono HE.out.2.size))); have f90 := hr9.f0; have f91 := hr9.f1; have c90 := hr9.c0; have c91 := hr9.c1; clear hr9 hb9))
   refine bodyPost_ret (results_cell_row rfl _ _ (w.heap.size + 1) 34 #[.int .i64 r1, .int .i64 r2] (0, 0) _ rfl (HE9.out.1.put _ _) Tryz.underlying34 rfl (by kernel_rfl)) rfl ⟨rfl, ?_⟩
   exact (HE9.out.2.setCell (p := ⟨w.heap.size + 1, 0, none⟩) (Nat.le_succ _) _).setCell (p := ⟨w.heap.size + 1, 1, none⟩) (Nat.le_succ _) _
  have hltb := decide_eq_true hlt
  have hx0 : 0 ≤ x := HX.out.1
  obtain ⟨az', e9, g9⟩ := Kd.at_int hz8 x hx0 hlt
  cases e9
  have g9' : wr.cell? (az.add x.toNat) = some (.int .i64 (rd sz x)) := by rw [hq]; exact g9
  have cf : wr.cell? ⟨W6a.heap.size, 0, none⟩ = some (.func (.func 56) #[] #[.pointer (some ⟨w6.heap.size, 0, none⟩), .pointer (some ⟨w.heap.size, 0, none⟩)]) := by rw [hq]; exact bf8.cell
  have HQ := a_ (fun k => (open_calls (wr.drewN k) w6.heap.size w.heap.size d l1 Ad cd (some am) c1 (by rw [hq]; exact bd8.cell) (by rw [hq]; exact bm8.cell) (by rw [hq]; exact hd8) (by rw [hq]; exact hc8) x hx0 (by have := HM.out.2.2.2.2.1; omega) (by have := HM.out.2.2.1; omega)).mono (R' := fun e W' => e = .returned (.bool (openB d l1 x)) ∧ ∃ m, W' = (wr.drewN k).drewN m) (fun e W' ⟨h1, h2⟩ => ⟨h1, 0, h2⟩))
  have HF := a_ (fun (y : Int) k => (off_calls y m (wr.drewN k)).mono (R' := fun e W' => e = .returned (.int .i64 (offW y m)) ∧ ∃ q, W' = (wr.drewN k).drewN q) (fun e W' ⟨h1, h2⟩ => ⟨h1, 0, h2⟩))
  have HK := a_ (And.intro hb (And.intro hq (And.intro hbr (And.intro hx0 hlt))))
  have hw1 : wrap64 (x + 1) = x + 1 := by have := HM.out.2.2.2.1; unfold wrap64; omega
  have HW := a_ hw1
  have hbx : bestH sz d l1 m (x + 1).toNat = if openB d l1 x = true ∧ (b < 0 ∨ offW (rd sz x) m < offW (rd sz b) m) then x else b := by
   rw [show (x + 1).toNat = x.toNat + 1 by omega, bestH, ← hb, show ((x.toNat : Nat) : Int) = x by omega]
  have HBX := a_ hbx
  have hms : l0.length - (x + 1).toNat < l0.length - x.toNat := by omega
  have HMS := a_ hms
  have hx9 : 0 ≤ x + 1 ∧ x + 1 ≤ (l0.length : Int) := by omega
  have HX9 := a_ hx9
  clear hb hq hbr hw1 hbx hms hx9 hz8 hB8 bm8 br8 bd8 bf8 hd8 hc8 g9
  replace hlt := eq_true hlt
  replace hx0 := eq_true hx0
  cases ho : openB d l1 x with
  | false =>
   rw [ho] at HQ HBX
   clear ho
   gi_wp2
   refine wpIn_region_quiet_lit rfl hmix (by kernel_rfl) ?_
   iterate 2 (quiet_step_in (fail))
   quiet_step_in (exact CallsIn.quiet_of (callsIn_wide.2 (HQ.out _)))
   quiet_step_in (fail)
   iterate 14 (refine BigFrame.wpQuietIn_skip (fun _ _ _ _ => trivial) (by first | rfl | kernel_rfl | simp [Region.wanted, yielded]) ?_; simp only [Act.put, List.setIfInBounds_toArray, List.set_cons_succ, List.set_cons_zero])
   quiet_step_in (fail)
   refine wpQuietIn_nil ?_
   intro _ hw'
   obtain ⟨nq, hw''⟩ := hw'
   subst hw''
   gi_wp2
   rw [HW.out]
   exact ⟨⟨b, x + 1, rfl, rfl, ⟨HX9.out⟩, ⟨by rw [HBX.out]; simp, q + nq, by rw [HK.out.2.1]; exact World.drewN_drewN _ _ _⟩⟩, by simp only [intOf]; exact HMS.out⟩
  | true =>
   rw [ho] at HQ HBX
   clear ho
   by_cases hb0 : b < 0
   case pos =>
    have hb0b := decide_eq_true hb0
    have HB0 := a_ hb0
    clear hb0
    gi_wp2
    refine wpIn_region_quiet_lit rfl hmix (by kernel_rfl) ?_
    iterate 2 (quiet_step_in (fail))
    quiet_step_in (exact CallsIn.quiet_of (callsIn_wide.2 (HQ.out _)))
    iterate 4 (quiet_step_in (fail))
    iterate 10 (refine BigFrame.wpQuietIn_skip (fun _ _ _ _ => trivial) (by first | rfl | kernel_rfl | simp [Region.wanted, yielded]) ?_; simp only [Act.put, List.setIfInBounds_toArray, List.set_cons_succ, List.set_cons_zero])
    iterate 2 (quiet_step_in (fail))
    refine wpQuietIn_nil ?_
    intro _ hw'
    obtain ⟨nq, hw''⟩ := hw'
    subst hw''
    gi_wp2
    rw [HW.out]
    exact ⟨⟨x, x + 1, rfl, rfl, ⟨HX9.out⟩, ⟨by rw [HBX.out]; simp [HB0.out], q + nq, by rw [HK.out.2.1]; exact World.drewN_drewN _ _ _⟩⟩, by simp only [intOf]; exact HMS.out⟩
   have hb0b := decide_eq_false hb0
   have hb1 : 0 ≤ b := by omega
   have hb2 : b < (l0.length : Int) := by have := HK.out.2.2.1.2; have := HX.out; omega
   obtain ⟨az'', e9, g10⟩ := Kd.at_int HZ.out.1 b hb1 hb2
   cases e9
   have g10' : wr.cell? (az.add b.toNat) = some (.int .i64 (rd sz b)) := by rw [HK.out.2.1]; exact g10
   have HB0 := a_ hb0
   clear hb0 g10
   replace hb1 := eq_true hb1
   replace hb2 := eq_true hb2
   obtain ⟨o1, ho1⟩ : ∃ o1, offW (rd sz x) m = o1 := ⟨_, rfl⟩
   obtain ⟨o2, ho2⟩ : ∃ o2, offW (rd sz b) m = o2 := ⟨_, rfl⟩
   have H1 := a_ (fun k => HF.out (rd sz x) k)
   have H2 := a_ (fun k => HF.out (rd sz b) k)
   rw [ho1] at H1 HBX
   rw [ho2] at H2 HBX
   by_cases hoo : o1 < o2
   case pos =>
    have hoob := decide_eq_true hoo
    have HOO := a_ hoo
    clear hoo ho1 ho2
    gi_wp2
    refine wpIn_region_quiet_lit rfl hmix (by kernel_rfl) ?_
    iterate 2 (quiet_step_in (fail))
    quiet_step_in (exact CallsIn.quiet_of (callsIn_wide.2 (HQ.out _)))
    iterate 6 (quiet_step_in (fail))
    quiet_step_in (exact CallsIn.quiet_of (callsIn_wide.2 (H1.out _)))
    iterate 5 (quiet_step_in (fail))
    quiet_step_in (exact CallsIn.quiet_of (callsIn_wide.2 (H2.out _)))
    iterate 3 (quiet_step_in (fail))
    refine wpQuietIn_nil ?_
    intro _ hw'
    obtain ⟨nq, hw''⟩ := hw'
    subst hw''
    gi_wp2
    rw [HW.out]
    exact ⟨⟨x, x + 1, rfl, rfl, ⟨HX9.out⟩, ⟨by rw [HBX.out]; simp [HOO.out], q + nq, by rw [HK.out.2.1]; exact World.drewN_drewN _ _ _⟩⟩, by simp only [intOf]; exact HMS.out⟩
   have hoob := decide_eq_false hoo
   have HOO := a_ hoo
   clear hoo ho1 ho2
   gi_wp2
   refine wpIn_region_quiet_lit rfl hmix (by kernel_rfl) ?_
   iterate 2 (quiet_step_in (fail))
   quiet_step_in (exact CallsIn.quiet_of (callsIn_wide.2 (HQ.out _)))
   iterate 6 (quiet_step_in (fail))
   quiet_step_in (exact CallsIn.quiet_of (callsIn_wide.2 (H1.out _)))
   iterate 5 (quiet_step_in (fail))
   quiet_step_in (exact CallsIn.quiet_of (callsIn_wide.2 (H2.out _)))
   iterate 3 (quiet_step_in (fail))
   refine wpQuietIn_nil ?_
   intro _ hw'
   obtain ⟨nq, hw''⟩ := hw'
   subst hw''
   gi_wp2
   rw [HW.out]
   exact ⟨⟨b, x + 1, rfl, rfl, ⟨HX9.out⟩, ⟨by rw [HBX.out, if_neg (fun h => by have h1 := HB0.out; have h2 := HOO.out; have h3 := h.2; omega)], q + nq, by rw [HK.out.2.1]; exact World.drewN_drewN _ _ _⟩⟩, by simp only [intOf]; exact HMS.out⟩
end
theorem half_Ask.calls (k : Nat) (A0 : Option Addr) (c0 : Nat) (l0 : List (S64)) (A1 : Option Addr) (c1 : Nat) (l1 : List Int) (r1 : Int) (r2 : Int) (w : World) (hr0 : Kd.C k64 w A0 l0.length l0) (hc0 : l0.length ≤ c0) (hr1 : Kd.C (Kd.int .i64) w A1 l1.length l1) (hc1 : l1.length ≤ c1) (h : half_Ask.f k l0 l1 = some (r1, r2)) (hG : GOK w) :
 Calls Tryz.prog 43 #[.slice A0 l0.length c0, .slice A1 l1.length c1] w fun e w' => e = .returned (.agg #[.int .i64 r1, .int .i64 r2]) ∧ Below w.heap.size w w' := by
 unfold half_Ask.f at h
 by_cases cg : 0 < l0.length ∧ l0.length ≤ 512 ∧ l1.length = l0.length ∧ parB l0 = true
 case neg =>
  rw [if_neg cg] at h; cases h

 rw [if_pos cg] at h
 by_cases c2 : rd l1 0 = 2
 case pos =>
  rw [if_pos c2] at h
  obtain ⟨wg, hL, h⟩ := Option.bind_eq_some_iff.mp h
  obtain ⟨d, hD, h⟩ := Option.bind_eq_some_iff.mp h
  by_cases cw : 0 ≤ wg ∧ wg < (l0.length : Int) ∧ d.length = l0.length
  case neg =>
   rw [if_neg cw] at h; cases h
  rw [if_pos cw] at h
  exact (callsIn_wide (n := 4)).1 (half_Ask.inW 4 (by omega) k A0 c0 l0 A1 c1 l1 wg d r1 r2 w hr0 hc0 hr1 hc1 c2 cg.1 cg.2.1 cg.2.2.1 cg.2.2.2 hL hD cw.1 cw.2.1 cw.2.2 h)
 rw [if_neg c2] at h
 obtain ⟨am, e, g⟩ := Kd.at_int hr1 0 (by omega) (by omega)
 cases e
 have HR0 := a_ hr0
 have HC0 := a_ hc0
 have HR1 := a_ hr1
 have HC1 := a_ hc1
 have HA := a_ h
 have hB2 : Below w.heap.size w ((w.alloc (.cells #[.slice (some am) l1.length c1] 27)).alloc (.cells #[.int .i64 0, .int .i64 0] 34)) := ((Below.refl _ w).alloc (Nat.le_refl _) _).alloc (by simp) _
 have bx0 := ((Boxed.new w 27 (.slice (some am) l1.length c1)).alloc (.cells #[.int .i64 0, .int .i64 0] 34))
 have bx1 := Boxed2.new (w.alloc (.cells #[.slice (some am) l1.length c1] 27)) 34 (.int .i64 0) (.int .i64 0)
 simp only [World.size_alloc] at bx1
 have g1 := (hB2.cell (World.block_lt_of_cell? w _ g)).trans g
 rw [show am.add (Int.toNat 0) = am from by cases am; rfl] at g1
 have cb := bx0.cell
 have HB2 := a_ (And.intro hB2 (And.intro bx0 bx1))
 have hpos : ((0 : Int) < (l1.length : Int)) = True := eq_true (by omega)
 have hposn : (0 < l1.length) = True := eq_true (by omega)
 have hne : (rd l1 0 != 2) = true := bne_iff_ne.2 c2
 have hu := Tryz.underlying34
 obtain ⟨W2, hW2⟩ : ∃ W2, (w.alloc (.cells #[.slice (some am) l1.length c1] 27)).alloc (.cells #[.int .i64 0, .int .i64 0] 34) = W2 := ⟨_, rfl⟩
 rw [hW2] at g1 cb HB2
 have HG := a_ hG
 clear hr0 hc0 hr1 hc1 h g bx0 bx1 hB2 cg c2 hG
 go_enter Tryz.func43, Tryz.ntmps43
 go_wp2_with (first
  | (go_at_call 44; (refine (top_Ask.calls k _ _ l0 _ _ l1 r1 r2 _ (Kd.C_below HR0.out HB2.out.1) HC0.out (Kd.C_below HR1.out HB2.out.1) HC1.out HA.out).mono ?_); rintro e w9 ⟨rfl, hb9⟩; have hr9 : Boxed2 w9 (w.heap.size + 1) 34 (.int .i64 0) (.int .i64 0) := (hb9.block _ HB2.out.2.2.lt).trans HB2.out.2.2; have HE9 := a_ (And.intro hr9 (HB2.out.1.trans (hb9.mono HB2.out.1.size))); have f90 := hr9.f0; have f91 := hr9.f1; have c90 := hr9.c0; have c91 := hr9.c1; clear hr9 hb9))
 refine bodyPost_ret (results_cell_row rfl _ _ (w.heap.size + 1) 34 #[.int .i64 r1, .int .i64 r2] (0, 0) _ rfl (HE9.out.1.put _ _) Tryz.underlying34 rfl (by kernel_rfl)) rfl ⟨rfl, ?_⟩
 exact (HE9.out.2.setCell (p := ⟨w.heap.size + 1, 0, none⟩) (Nat.le_succ _) _).setCell (p := ⟨w.heap.size + 1, 1, none⟩) (Nat.le_succ _) _
end Go.Proofs.YtgokcaccamfgfaaGreatDoor.G
end
section
-- Laid by the session's own driver gp.py over the kit's printer. Not trusted: Lean checks it.
namespace Go.Proofs.YtgokcaccamfgfaaGreatDoor.G
open Go.RowKit Go.Proofs.YtgokcaccamfgfaaGreatDoorW.PrintWords Go.Proofs.YtgokcaccamfgfaaGreatDoorW.PrintLast Go.Proofs.YtgokcaccamfgfaaGreatDoorW.PrintMore
set_option maxHeartbeats 8000000
set_option maxRecDepth 100000
attribute [local go_sem] max2_int min2_int max_two min_two max_three min_three max_four min_four   -- for this text's walks alone
set_option linter.unusedVariables false
set_option linter.unusedSimpArgs false

def next_Ask.f (k : Nat) (a0 : Int) (l1 : List (S64)) (l2 : List Int) : Option (Int × Int) := if a0 = 1 then ((half_Ask.f k l1 l2).bind fun bt315 => (some (bt315.1, bt315.2))) else ((top_Ask.f k l1 l2).bind fun bt317 => (some (bt317.1, bt317.2)))
theorem next_Ask.mono : ∀ a0 a1 a2 k, LeO (next_Ask.f k a0 a1 a2) (next_Ask.f (k + 1) a0 a1 a2) := by
 intro a0 a1 a2 k
 unfold next_Ask.f
 repeat' first
  | (with_reducible exact half_Ask.mono _ _ _)
  | (with_reducible exact top_Ask.mono _ _ _)
  | (with_reducible exact LeO.refl _)
  | (with_reducible exact LeO.none _)
  | (with_reducible refine LeO.ite ?_ ?_)
  | (with_reducible refine LeO.bind ?_ (fun _ => ?_))
  | exact half_Ask.mono _ _ _
  | exact top_Ask.mono _ _ _
  | exact LeO.none _
  | refine LeO.ite ?_ ?_
  | refine LeO.bind ?_ (fun _ => ?_)
theorem next_Ask.calls (k : Nat) (a0 : Int) (A1 : Option Addr) (c1 : Nat) (l1 : List (S64)) (A2 : Option Addr) (c2 : Nat) (l2 : List Int) (r1 : Int) (r2 : Int) (w : World) (hr1 : Kd.C k64 w A1 l1.length l1) (hc1 : l1.length ≤ c1) (hr2 : Kd.C (Kd.int .i64) w A2 l2.length l2) (hc2 : l2.length ≤ c2) (h : next_Ask.f k a0 l1 l2 = some (r1, r2)) (hG : GOK w) :
 Calls Tryz.prog 31 #[.int .i64 a0, .slice A1 l1.length c1, .slice A2 l2.length c2] w fun e w' => e = .returned (.agg #[.int .i64 r1, .int .i64 r2]) ∧ Below w.heap.size w w' := by
 have hu34 := Tryz.underlying34
 have HR1 := a_ hr1
 have HC1 := a_ hc1
 clear hr1 hc1
 have HR2 := a_ hr2
 have HC2 := a_ hc2
 clear hr2 hc2
 have HB := a_ (Below.refl w.heap.size w)
 have H : (if a0 = 1 then ((half_Ask.f k l1 l2).bind fun bt315 => (some (bt315.1, bt315.2))) else ((top_Ask.f k l1 l2).bind fun bt317 => (some (bt317.1, bt317.2)))) = some (r1, r2) := h
 clear h
 by_cases c4 : a0 = 1
 case neg =>
  rw [if_neg c4] at H
  have c4b0 : (a0 == 1) = false := beq_eq_false_iff_ne.mpr c4
  have c4b1 : (a0 != 1) = true := bne_iff_ne.mpr c4
  replace H := Option.bind_eq_some_iff.mp H
  obtain ⟨⟨t317, t318⟩, A90, H⟩ := H
  replace H : (some (t317, t318)) = some (r1, r2) := H
  have A9 := a_ A90
  clear A90
  simp only [Option.some.injEq, Prod.mk.injEq] at H
  obtain ⟨rfl, rfl⟩ := H
  go_enter Tryz.func31, Tryz.ntmps31
  go_wp2_with (first | ((with_reducible refine gate_dst (N := 6) rfl ?_); refine boxE_ 6 #[.int .i64 0, .int .i64 0] 34 ?_; intro gb314 hg w10 hbox hb; have BK314 := a_ (hbox); have GW314 := a_ ((gE_ hg : w.heap.size ≤ gb314)); have GE314 := a_ ((gE_ hg : w.heap.size ≤ gb314)); replace HB := a_ (below_step hB_ hb); clear hb hbox hg) | ((with_reducible refine gate_callee (f := 44) rfl ?_); refine goesL_ (some 14) rfl rfl Tryz.func44 (by kernel_rfl) rfl #[.slice A1 l1.length c1, .slice A2 l2.length c2] rfl hL_ ?_; (with_reducible refine (top_Ask.calls k _ _ l1 _ _ l2 t317 t318 _ ?side1 ?side2 ?side3 ?side4 A9.out).mono ?_); (case side1 => exact cB_ HR1.out); (case side2 => exact HC1.out); (case side3 => exact cB_ HR2.out); (case side4 => exact HC2.out); rintro e w11 ⟨rfl, hb⟩; refine ⟨_, rfl, ?_⟩; replace BK314 := a_ (bB_ BK314.out hb); replace HB := a_ (below_step hC_ hb); (try clear hb); (try clear hb2); (try clear hk); (try clear hi); obtain ⟨hcz12_0, hcz12_1, hfz12_0, hfz12_1⟩ := bx2_ BK314.out))
  refine bodyPost_ret (results_cell_row rfl _ _ gb314 34 #[.int .i64 t317, .int .i64 t318] (0, 0) _ rfl (bP_ (bP_ (hK_ BK314.out))) Tryz.underlying34 rfl (by kernel_rfl)) rfl ?_
  exact ⟨hV_, hC_⟩

 rw [if_pos c4] at H
 have c4b0 : (a0 == 1) = true := beq_iff_eq.mpr c4
 have c4b1 : (a0 != 1) = false := bne_eq_false_iff_eq.mpr c4
 clear c4
 replace H := Option.bind_eq_some_iff.mp H
 obtain ⟨⟨t315, t316⟩, A50, H⟩ := H
 replace H : (some (t315, t316)) = some (r1, r2) := H
 have A5 := a_ A50
 clear A50
 simp only [Option.some.injEq, Prod.mk.injEq] at H
 obtain ⟨rfl, rfl⟩ := H
 go_enter Tryz.func31, Tryz.ntmps31
 go_wp2_with (first | ((with_reducible refine gate_dst (N := 6) rfl ?_); refine boxE_ 6 #[.int .i64 0, .int .i64 0] 34 ?_; intro gb314 hg w6 hbox hb; have BK314 := a_ (hbox); have GW314 := a_ ((gE_ hg : w.heap.size ≤ gb314)); have GE314 := a_ ((gE_ hg : w.heap.size ≤ gb314)); replace HB := a_ (below_step hB_ hb); clear hb hbox hg) | ((with_reducible refine gate_callee (f := 43) rfl ?_); refine goesL_ (some 11) rfl rfl Tryz.func43 (by kernel_rfl) rfl #[.slice A1 l1.length c1, .slice A2 l2.length c2] rfl hL_ ?_; (with_reducible refine (half_Ask.calls k _ _ l1 _ _ l2 t315 t316 _ ?side1 ?side2 ?side3 ?side4 A5.out (by first | exact hG | exact GOK.below hG hC_)).mono ?_); (case side1 => exact cB_ HR1.out); (case side2 => exact HC1.out); (case side3 => exact cB_ HR2.out); (case side4 => exact HC2.out); rintro e w7 ⟨rfl, hb⟩; refine ⟨_, rfl, ?_⟩; replace BK314 := a_ (bB_ BK314.out hb); replace HB := a_ (below_step hC_ hb); (try clear hb); (try clear hb2); (try clear hk); (try clear hi); obtain ⟨hcz8_0, hcz8_1, hfz8_0, hfz8_1⟩ := bx2_ BK314.out))
 refine bodyPost_ret (results_cell_row rfl _ _ gb314 34 #[.int .i64 t315, .int .i64 t316] (0, 0) _ rfl (bP_ (bP_ (hK_ BK314.out))) Tryz.underlying34 rfl (by kernel_rfl)) rfl ?_
 exact ⟨hV_, hC_⟩
def sleuthref12_rooted.f (a0 : Int) : Option (Int × Int) := if a0 = 0 then (some (0, 0)) else (if a0 = 1 then (some (2, 0)) else (some (3, 0)))
theorem sleuthref12_rooted.calls (a0 : Int) (r1 : Int) (r2 : Int) (w : World) (h : sleuthref12_rooted.f a0 = some (r1, r2)) :
 Calls Tryz.prog 62 #[.int .i64 a0] w fun e w' => e = .returned (.agg #[.int .i64 r1, .int .i64 r2]) ∧ Below w.heap.size w w' := by
 have hu34 := Tryz.underlying34
 have HB := a_ (Below.refl w.heap.size w)
 have H : (if a0 = 0 then (some (0, 0)) else (if a0 = 1 then (some (2, 0)) else (some (3, 0)))) = some (r1, r2) := h
 clear h
 by_cases c2 : a0 = 0
 case pos =>
  rw [if_pos c2] at H
  have c2b0 : (a0 == 0) = true := beq_iff_eq.mpr c2
  have c2b1 : (a0 != 0) = false := bne_eq_false_iff_eq.mpr c2
  clear c2
  simp only [Option.some.injEq, Prod.mk.injEq] at H
  obtain ⟨rfl, rfl⟩ := H
  go_enter Tryz.func62, Tryz.ntmps62
  go_wp2_with (first | ((with_reducible refine gate_dst (N := 2) rfl ?_); refine boxE_ 2 #[.int .i64 0, .int .i64 0] 34 ?_; intro gb328 hg w3 hbox hb; have BK328 := a_ (hbox); have GW328 := a_ ((gE_ hg : w.heap.size ≤ gb328)); have GE328 := a_ ((gE_ hg : w.heap.size ≤ gb328)); replace HB := a_ (below_step hB_ hb); clear hb hbox hg; obtain ⟨hcz4_0, hcz4_1, hfz4_0, hfz4_1⟩ := bx2_ BK328.out))
  refine bodyPost_ret (results_cell_row rfl _ _ gb328 34 #[.int .i64 0, .int .i64 0] (0, 0) _ rfl (bP_ (bP_ (hK_ BK328.out))) Tryz.underlying34 rfl (by kernel_rfl)) rfl ?_
  exact ⟨hV_, hC_⟩
 rw [if_neg c2] at H
 have c2b0 : (a0 == 0) = false := beq_eq_false_iff_ne.mpr c2
 have c2b1 : (a0 != 0) = true := bne_iff_ne.mpr c2
 by_cases c5 : a0 = 1
 case neg =>
  rw [if_neg c5] at H
  have c5b0 : (a0 == 1) = false := beq_eq_false_iff_ne.mpr c5
  have c5b1 : (a0 != 1) = true := bne_iff_ne.mpr c5
  simp only [Option.some.injEq, Prod.mk.injEq] at H
  obtain ⟨rfl, rfl⟩ := H
  go_enter Tryz.func62, Tryz.ntmps62
  go_wp2_with (first | ((with_reducible refine gate_dst (N := 2) rfl ?_); refine boxE_ 2 #[.int .i64 0, .int .i64 0] 34 ?_; intro gb328 hg w8 hbox hb; have BK328 := a_ (hbox); have GW328 := a_ ((gE_ hg : w.heap.size ≤ gb328)); have GE328 := a_ ((gE_ hg : w.heap.size ≤ gb328)); replace HB := a_ (below_step hB_ hb); clear hb hbox hg; obtain ⟨hcz9_0, hcz9_1, hfz9_0, hfz9_1⟩ := bx2_ BK328.out))
  refine bodyPost_ret (results_cell_row rfl _ _ gb328 34 #[.int .i64 3, .int .i64 0] (0, 0) _ rfl (bP_ (bP_ (hK_ BK328.out))) Tryz.underlying34 rfl (by kernel_rfl)) rfl ?_
  exact ⟨hV_, hC_⟩

 rw [if_pos c5] at H
 have c5b0 : (a0 == 1) = true := beq_iff_eq.mpr c5
 have c5b1 : (a0 != 1) = false := bne_eq_false_iff_eq.mpr c5
 clear c5
 simp only [Option.some.injEq, Prod.mk.injEq] at H
 obtain ⟨rfl, rfl⟩ := H
 go_enter Tryz.func62, Tryz.ntmps62
 go_wp2_with (first | ((with_reducible refine gate_dst (N := 2) rfl ?_); refine boxE_ 2 #[.int .i64 0, .int .i64 0] 34 ?_; intro gb328 hg w6 hbox hb; have BK328 := a_ (hbox); have GW328 := a_ ((gE_ hg : w.heap.size ≤ gb328)); have GE328 := a_ ((gE_ hg : w.heap.size ≤ gb328)); replace HB := a_ (below_step hB_ hb); clear hb hbox hg; obtain ⟨hcz7_0, hcz7_1, hfz7_0, hfz7_1⟩ := bx2_ BK328.out))
 refine bodyPost_ret (results_cell_row rfl _ _ gb328 34 #[.int .i64 2, .int .i64 0] (0, 0) _ rfl (bP_ (bP_ (hK_ BK328.out))) Tryz.underlying34 rfl (by kernel_rfl)) rfl ?_
 exact ⟨hV_, hC_⟩
end Go.Proofs.YtgokcaccamfgfaaGreatDoor.G
end
section
-- Laid by the session's own driver gp.py over the kit's printer. Not trusted: Lean checks it.
namespace Go.Proofs.YtgokcaccamfgfaaGreatDoor.G
open Go.RowKit Go.Proofs.YtgokcaccamfgfaaGreatDoorW.PrintWords Go.Proofs.YtgokcaccamfgfaaGreatDoorW.PrintLast Go.Proofs.YtgokcaccamfgfaaGreatDoorW.PrintMore
set_option maxHeartbeats 8000000
set_option maxRecDepth 100000
attribute [local go_sem] max2_int min2_int max_two min_two max_three min_three max_four min_four   -- for this text's walks alone
set_option linter.unusedVariables false
set_option linter.unusedSimpArgs false

def sleuthref12_kids.l0 : Nat → List (S64) → Int → List Int → Int → Option (List Int)
 | 0, _, _, _, _ => none
 | k + 1, x0, x1, x5, x6 => if x6 < (x0.length : Int) then (if 0 ≤ x6 then (if ((rd_T64 x0 x6).f1) = x1 then (if x5.length < 17592186044416 then (sleuthref12_kids.l0 k x0 x1 (x5 ++ [x6]) (wrap64 (x6 + 1))) else (none)) else (sleuthref12_kids.l0 k x0 x1 x5 (wrap64 (x6 + 1)))) else (none)) else (some x5)
def sleuthref12_kids.f (k : Nat) (l0 : List (S64)) (a1 : Int) : Option (List Int) := sleuthref12_kids.l0 k l0 a1 ([] : List Int) 0
theorem sleuthref12_kids.mono_l : ∀ k, (∀ y0 y1 y2 y3, LeO (sleuthref12_kids.l0 k y0 y1 y2 y3) (sleuthref12_kids.l0 (k + 1) y0 y1 y2 y3))
 | 0 => fun _ _ _ _ r h => by simp [sleuthref12_kids.l0] at h
 | k + 1 => by
  have ih0 := sleuthref12_kids.mono_l k
  · intro y0 y1 y2 y3
    unfold sleuthref12_kids.l0
    repeat' first
    | (with_reducible exact ih0 _ _ _ _)
    | (with_reducible exact LeO.refl _)
    | (with_reducible exact LeO.none _)
    | (with_reducible refine LeO.ite ?_ ?_)
    | (with_reducible refine LeO.bind ?_ (fun _ => ?_))
    | exact ih0 _ _ _ _
    | exact LeO.none _
    | refine LeO.ite ?_ ?_
    | refine LeO.bind ?_ (fun _ => ?_)
theorem sleuthref12_kids.mono : ∀ a0 a1 k, LeO (sleuthref12_kids.f k a0 a1) (sleuthref12_kids.f (k + 1) a0 a1) := by
 intro a0 a1 k
 have ih0 := sleuthref12_kids.mono_l k
 unfold sleuthref12_kids.f
 repeat' first
  | (with_reducible exact ih0 _ _ _ _)
  | (with_reducible exact LeO.refl _)
  | (with_reducible exact LeO.none _)
  | (with_reducible refine LeO.ite ?_ ?_)
  | (with_reducible refine LeO.bind ?_ (fun _ => ?_))
  | exact ih0 _ _ _ _
  | exact LeO.none _
  | refine LeO.ite ?_ ?_
  | refine LeO.bind ?_ (fun _ => ?_)
theorem sleuthref12_kids.calls (k : Nat) (A0 : Option Addr) (c0 : Nat) (l0 : List (S64)) (a1 : Int) (r : List Int) (w : World) (hr0 : Kd.C k64 w A0 l0.length l0) (hc0 : l0.length ≤ c0) (h : sleuthref12_kids.f k l0 a1 = some r) :
 Calls Tryz.prog 63 #[.slice A0 l0.length c0, .int .i64 a1] w fun e w' => ∃ v0_ : Value, e = .returned (v0_) ∧ Kd.R (Kd.int .i64) 3 w' w.heap.size (fun _ => True) v0_ r ∧ Below w.heap.size w w' := by
 have HR0 := a_ hr0
 have HC0 := a_ hc0
 clear hr0 hc0
 have HB := a_ (Below.refl w.heap.size w)
 have H : (sleuthref12_kids.l0 k l0 a1 ([] : List Int) 0) = some r := h
 clear h
 have H' := a_ H
 clear H
 go_enter Tryz.func63, Tryz.ntmps63
 go_wp2
 go_loopg [5, 6] k (fun kq v5 v6 w' => ∃ (x5_1 : List Int) (x6_1 : Int), v6 = .int .i64 x6_1 ∧ Aside0 (sleuthref12_kids.l0 kq l0 a1 x5_1 x6_1 = some r) ∧ Aside0 (kq ≤ k) ∧ Aside0 (Kd.R (Kd.int .i64) 3 w' w.heap.size (fun _ => True) v5 x5_1) ∧ Aside0 (Below w.heap.size w w'))
 case atStart => exact ⟨(([] : List Int)), (0), hW_, H', ⟨Nat.le_refl _⟩, ⟨by first | exact Kd.R_nil _ _ _ _ _ | exact Kd.N_nil _ _ _ _ _ | exact Kd.V_nil _ _ _ _ _ | exact Kd.Q_nil _ _ _ _ _ | exact Kd.S_nil _ _ _ _ _⟩, ⟨hC_⟩⟩
 case round =>
  clear H'
  try clear p2
  obtain ⟨x5_1, x6_1, rfl, HA, HK1, HO_5, HB⟩ := hrel
  cases gk with
  | zero => exact absurd HA.out (by simp [sleuthref12_kids.l0])
  | succ k1 =>
   have H := HA.out
   clear HA
   simp only [sleuthref12_kids.l0] at H
   by_cases c3 : x6_1 < (l0.length : Int)
   case neg =>
    rw [if_neg c3] at H
    have c3b0 : decide (x6_1 < (l0.length : Int)) = false := decide_eq_false c3
    clear c3
    obtain rfl := Option.some.inj H
    go_wp2
    go_ret
    exact ⟨_, hV_, hR_ HO_5.out, hC_⟩

   rw [if_pos c3] at H
   have c3b0 : decide (x6_1 < (l0.length : Int)) = true := decide_eq_true c3
   clear c3
   replace H := ifI_ H; obtain ⟨c4, H⟩ := H
   have c4b0 : decide (0 ≤ x6_1) = true := decide_eq_true c4
   clear c4
   by_cases c5 : ((rd_T64 l0 x6_1).f1) = a1
   case neg =>
    rw [if_neg c5] at H
    have c5b0 : (((rd_T64 l0 x6_1).f1) == a1) = false := beq_eq_false_iff_ne.mpr c5
    have c5b1 : (((rd_T64 l0 x6_1).f1) != a1) = true := bne_iff_ne.mpr c5
    have H' := a_ H
    clear H
    have p329 : 0 ≤ (x6_1 : Int) := of_decide_eq_true hA_
    have q329 : x6_1 < (l0.length : Int) := of_decide_eq_true hA_
    obtain ⟨ad329, A329_2, c329_2, e329, hx329_0, hx329_1, hx329_2, hx329_3, hl329_2, hi329_2⟩ := at_T64 HR0.out x6_1 p329 q329
    cases e329
    replace hx329_0 := cl_ HB.out hx329_0
    replace hx329_1 := cl_ HB.out hx329_1
    replace hx329_2 := cl_ HB.out hx329_2
    replace hx329_3 := cl_ HB.out hx329_3
    have HR329_2 := a_ hi329_2
    have HC329_2 := a_ hl329_2
    clear hi329_2 hl329_2
    replace p329 := eq_true p329
    replace q329 := eq_true q329
    go_wp2
    go_roundg k1
    case measure => have := HK1.out; omega
    case rel => exact ⟨(x5_1), (wrap64 (x6_1 + 1)), hW_, H', ⟨by have := HK1.out; omega⟩, ⟨hR_ HO_5.out⟩, ⟨hC_⟩⟩
   rw [if_pos c5] at H
   have c5b0 : (((rd_T64 l0 x6_1).f1) == a1) = true := beq_iff_eq.mpr c5
   have c5b1 : (((rd_T64 l0 x6_1).f1) != a1) = false := bne_eq_false_iff_eq.mpr c5
   clear c5
   replace H := ifI_ H; obtain ⟨c6, H⟩ := H
   have LMc6 := a_ c6
   clear c6
   obtain ⟨y330, hy330⟩ : ∃ y_ : List Int, y_ = (x5_1 ++ [x6_1]) := ⟨_, rfl⟩
   replace H : (sleuthref12_kids.l0 k1 l0 a1 y330 (wrap64 (x6_1 + 1))) = some r := by first | (rw [hy330]; with_reducible exact H) | (have H2_ := (Option.bind_some _ _).symm.trans H; rw [hy330]; with_reducible exact H2_) | (have H2_ := (Option.bind_some _ _).symm.trans H; with_reducible exact H2_) | with_reducible exact H | (rw [hy330]; exact H) | exact H
   have Ny330 := a_ hy330
   clear hy330
   have H' := a_ H
   clear H
   have p329 : 0 ≤ (x6_1 : Int) := of_decide_eq_true hA_
   have q329 : x6_1 < (l0.length : Int) := of_decide_eq_true hA_
   obtain ⟨ad329, A329_2, c329_2, e329, hx329_0, hx329_1, hx329_2, hx329_3, hl329_2, hi329_2⟩ := at_T64 HR0.out x6_1 p329 q329
   cases e329
   replace hx329_0 := cl_ HB.out hx329_0
   replace hx329_1 := cl_ HB.out hx329_1
   replace hx329_2 := cl_ HB.out hx329_2
   replace hx329_3 := cl_ HB.out hx329_3
   have HR329_2 := a_ hi329_2
   have HC329_2 := a_ hl329_2
   clear hi329_2 hl329_2
   replace p329 := eq_true p329
   replace q329 := eq_true q329
   go_wp2_with (first | ((with_reducible refine gate_builtin (b := .append) (xs := #[.tmp 20, .tmp 22]) rfl ?_); at_builtin; refine Kd.R_append (Kd.int .i64) (w0 := w) w.heap.size rfl (.tmp 20) (.tmp 22) 27 3 (.int .i64 0) 8 rfl Tryz.underlying27 info3 rfl (by decide) (by omega) u5 x5_1 x6_1 [.int .i64 x6_1] (fun _ => True) (fun _ => False) rfl rfl ?aP (fun _ hk => hk.elim) ?aF ?aO ?aB ?aS ?aL ?_; (case aP => exact rfl); (case aB => exact hB_); (case aF => exact (fun _ _ => trivial)); (case aO => exact (hR_ HO_5.out)); (case aS => exact hS_); (case aL => have := LMc6.out; omega); intro v331 w7 ho hb hg hat; rw [← Ny330.out] at ho; replace HB := a_ (hb); have HO332 := a_ (ho); clear HO_5; clear ho hb hg hat))
   go_roundg k1
   case measure => have := HK1.out; omega
   case rel => exact ⟨(y330), (wrap64 (x6_1 + 1)), hW_, H', ⟨by have := HK1.out; omega⟩, ⟨hR_ HO332.out⟩, ⟨hC_⟩⟩
def sleuthref12_firstOf.l0 : Nat → List Int → List Int → Int → Int → Option (Int)
 | 0, _, _, _, _ => none
 | k + 1, x0, x1, x2, x7 => if x7 < (x0.length : Int) then (if 0 ≤ x7 then (if 0 ≤ (rd x0 x7) then (if (rd x0 x7) < (x1.length : Int) then (if (rd x1 (rd x0 x7)) = x2 then (some (rd x0 x7)) else (sleuthref12_firstOf.l0 k x0 x1 x2 (wrap64 (x7 + 1)))) else (none)) else (none)) else (none)) else (some (-1))
def sleuthref12_firstOf.f (k : Nat) (l0 : List Int) (l1 : List Int) (a2 : Int) : Option (Int) := sleuthref12_firstOf.l0 k l0 l1 a2 0
theorem sleuthref12_firstOf.mono_l : ∀ k, (∀ y0 y1 y2 y3, LeO (sleuthref12_firstOf.l0 k y0 y1 y2 y3) (sleuthref12_firstOf.l0 (k + 1) y0 y1 y2 y3))
 | 0 => fun _ _ _ _ r h => by simp [sleuthref12_firstOf.l0] at h
 | k + 1 => by
  have ih0 := sleuthref12_firstOf.mono_l k
  · intro y0 y1 y2 y3
    unfold sleuthref12_firstOf.l0
    repeat' first
    | (with_reducible exact ih0 _ _ _ _)
    | (with_reducible exact LeO.refl _)
    | (with_reducible exact LeO.none _)
    | (with_reducible refine LeO.ite ?_ ?_)
    | (with_reducible refine LeO.bind ?_ (fun _ => ?_))
    | exact ih0 _ _ _ _
    | exact LeO.none _
    | refine LeO.ite ?_ ?_
    | refine LeO.bind ?_ (fun _ => ?_)
theorem sleuthref12_firstOf.mono : ∀ a0 a1 a2 k, LeO (sleuthref12_firstOf.f k a0 a1 a2) (sleuthref12_firstOf.f (k + 1) a0 a1 a2) := by
 intro a0 a1 a2 k
 have ih0 := sleuthref12_firstOf.mono_l k
 unfold sleuthref12_firstOf.f
 repeat' first
  | (with_reducible exact ih0 _ _ _ _)
  | (with_reducible exact LeO.refl _)
  | (with_reducible exact LeO.none _)
  | (with_reducible refine LeO.ite ?_ ?_)
  | (with_reducible refine LeO.bind ?_ (fun _ => ?_))
  | exact ih0 _ _ _ _
  | exact LeO.none _
  | refine LeO.ite ?_ ?_
  | refine LeO.bind ?_ (fun _ => ?_)
theorem sleuthref12_firstOf.calls (k : Nat) (A0 : Option Addr) (c0 : Nat) (l0 : List Int) (A1 : Option Addr) (c1 : Nat) (l1 : List Int) (a2 : Int) (r : Int) (w : World) (hr0 : Kd.C (Kd.int .i64) w A0 l0.length l0) (hc0 : l0.length ≤ c0) (hr1 : Kd.C (Kd.int .i64) w A1 l1.length l1) (hc1 : l1.length ≤ c1) (h : sleuthref12_firstOf.f k l0 l1 a2 = some r) :
 Calls Tryz.prog 64 #[.slice A0 l0.length c0, .slice A1 l1.length c1, .int .i64 a2] w fun e w' => e = .returned (.int .i64 r) ∧ Drawn0 w w' := by
 have HR0 := a_ hr0
 have HC0 := a_ hc0
 clear hr0 hc0
 have HR1 := a_ hr1
 have HC1 := a_ hc1
 clear hr1 hc1
 have H : (sleuthref12_firstOf.l0 k l0 l1 a2 0) = some r := h
 clear h
 have H' := a_ H
 clear H
 go_enter Tryz.func64, Tryz.ntmps64
 go_wp2
 go_loopg [7] k (fun kq v7 w' => ∃ (x7_1 : Int), v7 = .int .i64 x7_1 ∧ Aside0 (sleuthref12_firstOf.l0 kq l0 l1 a2 x7_1 = some r) ∧ Aside0 (kq ≤ k) ∧ Drawn0 w w')
 case atStart => exact ⟨(0), hW_, H', ⟨Nat.le_refl _⟩, by repeat (first | exact Drawn0.refl _ | apply Drawn0.step)⟩
 case round =>
  clear H'
  try clear c1
  try clear p2
  obtain ⟨x7_1, rfl, HA, HK1, ⟨m1, rfl⟩⟩ := hrel
  cases gk with
  | zero => exact absurd HA.out (by simp [sleuthref12_firstOf.l0])
  | succ k1 =>
   have H := HA.out
   clear HA
   simp only [sleuthref12_firstOf.l0] at H
   by_cases c4 : x7_1 < (l0.length : Int)
   case neg =>
    rw [if_neg c4] at H
    have c4b0 : decide (x7_1 < (l0.length : Int)) = false := decide_eq_false c4
    clear c4
    obtain rfl := Option.some.inj H
    go_wp2
    go_ret
    exact ⟨by first | rfl | (simp; done) | (simp [*]; done), by repeat (first | exact Drawn0.refl _ | apply Drawn0.step)⟩

   rw [if_pos c4] at H
   have c4b0 : decide (x7_1 < (l0.length : Int)) = true := decide_eq_true c4
   clear c4
   replace H := ifI_ H; obtain ⟨c5, H⟩ := H
   have c5b0 : decide (0 ≤ x7_1) = true := decide_eq_true c5
   clear c5
   replace H := ifI_ H; obtain ⟨c6, H⟩ := H
   have c6b0 : decide (0 ≤ (rd l0 x7_1)) = true := decide_eq_true c6
   clear c6
   replace H := ifI_ H; obtain ⟨c7, H⟩ := H
   have c7b0 : decide ((rd l0 x7_1) < (l1.length : Int)) = true := decide_eq_true c7
   clear c7
   by_cases c8 : (rd l1 (rd l0 x7_1)) = a2
   case neg =>
    rw [if_neg c8] at H
    have c8b0 : ((rd l1 (rd l0 x7_1)) == a2) = false := beq_eq_false_iff_ne.mpr c8
    have c8b1 : ((rd l1 (rd l0 x7_1)) != a2) = true := bne_iff_ne.mpr c8
    have H' := a_ H
    clear H
    have p333 : 0 ≤ (x7_1 : Int) := of_decide_eq_true hA_
    have q333 : x7_1 < (l0.length : Int) := of_decide_eq_true hA_
    obtain ⟨ad333, e333, hx333_0⟩ := Kd.at_int HR0.out x7_1 p333 q333
    cases e333
    replace p333 := eq_true p333
    replace q333 := eq_true q333
    have p334 : 0 ≤ ((rd l0 x7_1) : Int) := of_decide_eq_true hA_
    have q334 : (rd l0 x7_1) < (l1.length : Int) := of_decide_eq_true hA_
    obtain ⟨ad334, e334, hx334_0⟩ := Kd.at_int HR1.out (rd l0 x7_1) p334 q334
    cases e334
    replace p334 := eq_true p334
    replace q334 := eq_true q334
    go_wp2
    go_roundg k1
    case measure => have := HK1.out; omega
    case rel => exact ⟨(wrap64 (x7_1 + 1)), hW_, H', ⟨by have := HK1.out; omega⟩, by repeat (first | exact Drawn0.refl _ | apply Drawn0.step)⟩
   rw [if_pos c8] at H
   have c8b0 : ((rd l1 (rd l0 x7_1)) == a2) = true := beq_iff_eq.mpr c8
   have c8b1 : ((rd l1 (rd l0 x7_1)) != a2) = false := bne_eq_false_iff_eq.mpr c8
   clear c8
   obtain rfl := Option.some.inj H
   have p333 : 0 ≤ (x7_1 : Int) := of_decide_eq_true hA_
   have q333 : x7_1 < (l0.length : Int) := of_decide_eq_true hA_
   obtain ⟨ad333, e333, hx333_0⟩ := Kd.at_int HR0.out x7_1 p333 q333
   cases e333
   replace p333 := eq_true p333
   replace q333 := eq_true q333
   have p334 : 0 ≤ ((rd l0 x7_1) : Int) := of_decide_eq_true hA_
   have q334 : (rd l0 x7_1) < (l1.length : Int) := of_decide_eq_true hA_
   obtain ⟨ad334, e334, hx334_0⟩ := Kd.at_int HR1.out (rd l0 x7_1) p334 q334
   cases e334
   replace p334 := eq_true p334
   replace q334 := eq_true q334
   have p335 : 0 ≤ (x7_1 : Int) := of_decide_eq_true hA_
   have q335 : x7_1 < (l0.length : Int) := of_decide_eq_true hA_
   obtain ⟨ad335, e335, hx335_0⟩ := Kd.at_int HR0.out x7_1 p335 q335
   obtain rfl : ad333 = ad335 := (by injection e335)
   replace p335 := eq_true p335
   replace q335 := eq_true q335
   go_wp2
   go_ret
   exact ⟨by first | rfl | (simp; done) | (simp [*]; done), by repeat (first | exact Drawn0.refl _ | apply Drawn0.step)⟩
end Go.Proofs.YtgokcaccamfgfaaGreatDoor.G
end
