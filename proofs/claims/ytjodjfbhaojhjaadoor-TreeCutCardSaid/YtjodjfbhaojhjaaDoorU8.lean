/- Parts of this proof, one behind the other: G22, G23. -/
import Derived.Test.YtjodjfbhaojhjaaDoorG0
import Derived.Test.YtjodjfbhaojhjaaDoorU7
section
namespace Go.Proofs.YtjodjfbhaojhjaaDoor.G
open Go.RowKit Go.Proofs.YtjodjfbhaojhjaaDoorW.PrintWords Go.Proofs.YtjodjfbhaojhjaaDoorW.PrintLast Go.Proofs.YtjodjfbhaojhjaaDoorW.PrintMore
attribute [local go_sem] max2_int min2_int max_two min_two max_three min_three max_four min_four
set_option linter.unusedVariables false
set_option linter.unusedSimpArgs false
mutual
def sleuthref1_parts.l0 : Nat → ByteArray → Int → Int → Int → List ByteArray → Int → Option (Int × Int × List ByteArray × Int)
  | 0, _, _, _, _, _, _ => none
  | k + 1, x0, x2, x189000, x189001, x189002, x189003 => if (x189002.length : Int) < 3 then ((sleuthref1_term.f k x0 x2).bind fun bt196 => (if bt196.2.2.2 < 0 then (sleuthref1_parts.j1 k x0 x2 true x189000 x189001 x189002 x189003 bt196.1 bt196.2.1 bt196.2.2.1 bt196.2.2.2) else (sleuthref1_parts.j1 k x0 x2 (decide (bt196.2.2.2 ≥ (x0.size : Int))) x189000 x189001 x189002 x189003 bt196.1 bt196.2.1 bt196.2.2.1 bt196.2.2.2))) else ((sleuthref1_bad.f).bind fun bt190 => (some (bt190.1, bt190.2.1, bt190.2.2.1, bt190.2.2.2)))
def sleuthref1_parts.j1 : Nat → ByteArray → Int → Bool → Int → Int → List ByteArray → Int → Int → Int → List ByteArray → Int → Option (Int × Int × List ByteArray × Int)
  | 0, _, _, _, _, _, _, _, _, _, _, _ => none
  | k + 1, x0, x2, x24, x189000, x189001, x189002, x189003, x203000, x203001, x203002, x203003 => if x24 = true then ((sleuthref1_bad.f).bind fun bt203 => (some (bt203.1, bt203.2.1, bt203.2.2.1, bt203.2.2.2))) else (if 0 ≤ x2 then (if x2 ≤ x203003 then (if x203003 ≤ (x0.size : Int) then (if x189002.length < 8796093022208 then ((some (x189002 ++ [x0.extract (x2 : Int).toNat (x203003 : Int).toNat] : List ByteArray)).bind fun y209 => (if 0 ≤ x203003 then (if x203003 < (x0.size : Int) then (if (bt x0 x203003) = 41 then (some (x189000, x189001, y209, wrap64 (x203003 + 1))) else (if (bt x0 x203003) = 32 then (sleuthref1_parts.l0 k x0 (wrap64 (x203003 + 1)) x189000 x189001 y209 x189003) else ((sleuthref1_bad.f).bind fun bt212 => (some (bt212.1, bt212.2.1, bt212.2.2.1, bt212.2.2.2))))) else (none)) else (none))) else (none)) else (none)) else (none)) else (none))
def sleuthref1_parts.f : Nat → ByteArray → Int → Int → List ByteArray → Int → Int → Option (Int × Int × List ByteArray × Int)
  | 0, _, _, _, _, _, _ => none
  | k + 1, a0, a1_0, a1_1, l1_2, a1_3, a2 => sleuthref1_parts.l0 k a0 a2 a1_0 a1_1 l1_2 a1_3
def sleuthref1_term.j0 : Nat → ByteArray → Int → Int → Int → Bool → Option (Int × Int × List ByteArray × Int)
  | 0, _, _, _, _, _ => none
  | k + 1, x0, x1, x5, x6, x45 => if x45 = true then ((sleuthref1_bad.f).bind fun bt228 => (some (bt228.1, bt228.2.1, bt228.2.2.1, bt228.2.2.2))) else (if (wrap64 ((wrap64 (x1 + 1)) + x6)) < (x0.size : Int) then (if 0 ≤ (wrap64 ((wrap64 (x1 + 1)) + x6)) then (if (bt x0 (wrap64 ((wrap64 (x1 + 1)) + x6))) = 40 then ((sleuthref1_parts.f k x0 2 x5 ([] : List ByteArray) (wrap64 ((wrap64 (x1 + 1)) + x6)) (wrap64 ((wrap64 ((wrap64 (x1 + 1)) + x6)) + 1))).bind fun bt235 => (some (bt235.1, bt235.2.1, bt235.2.2.1, bt235.2.2.2))) else (some (2, x5, ([] : List ByteArray), wrap64 ((wrap64 (x1 + 1)) + x6)))) else (none)) else (some (2, x5, ([] : List ByteArray), wrap64 ((wrap64 (x1 + 1)) + x6))))
def sleuthref1_term.f : Nat → ByteArray → Int → Option (Int × Int × List ByteArray × Int)
  | 0, _, _ => none
  | k + 1, a0, a1 => if a1 ≥ (a0.size : Int) then ((sleuthref1_bad.f).bind fun bt220 => (some (bt220.1, bt220.2.1, bt220.2.2.1, bt220.2.2.2))) else (if 0 ≤ a1 then (if a1 < (a0.size : Int) then (if (bt a0 a1) = 95 then (some (0, 0, ([] : List ByteArray), wrap64 (a1 + 1))) else (if (bt a0 a1) = 33 then (some (3, 0, ([] : List ByteArray), wrap64 (a1 + 1))) else (if (bt a0 a1) = 64 then (if 0 ≤ (wrap64 (a1 + 1)) then (if (wrap64 (a1 + 1)) ≤ (a0.size : Int) then ((sleuthref1_digits.f k (a0.extract ((wrap64 (a1 + 1)) : Int).toNat a0.size)).bind fun bt226 => (if bt226.2 = 0 then (sleuthref1_term.j0 k a0 a1 bt226.1 bt226.2 true) else (sleuthref1_term.j0 k a0 a1 bt226.1 bt226.2 (decide (bt226.1 > 99))))) else (none)) else (none)) else (if (bt a0 a1) = 45 then (if 0 ≤ (wrap64 (a1 + 1)) then (if (wrap64 (a1 + 1)) ≤ (a0.size : Int) then ((sleuthref1_digits.f k (a0.extract ((wrap64 (a1 + 1)) : Int).toNat a0.size)).bind fun bt241 => (if bt241.2 = 0 then ((sleuthref1_bad.f).bind fun bt243 => (some (bt243.1, bt243.2.1, bt243.2.2.1, bt243.2.2.2))) else (if bt241.1 = 0 then ((sleuthref1_bad.f).bind fun bt249 => (some (bt249.1, bt249.2.1, bt249.2.2.1, bt249.2.2.2))) else ((sleuthref1_NumMay.f (wrap64 (-bt241.1))).bind fun t255 => (if t255 = true then (some (1, wrap64 (-bt241.1), ([] : List ByteArray), wrap64 ((wrap64 (a1 + 1)) + bt241.2))) else ((sleuthref1_bad.f).bind fun bt256 => (some (bt256.1, bt256.2.1, bt256.2.2.1, bt256.2.2.2)))))))) else (none)) else (none)) else (if a1 ≤ (a0.size : Int) then ((sleuthref1_digits.f k (a0.extract (a1 : Int).toNat a0.size)).bind fun bt262 => (if bt262.2 = 0 then ((sleuthref1_bad.f).bind fun bt264 => (some (bt264.1, bt264.2.1, bt264.2.2.1, bt264.2.2.2))) else ((sleuthref1_NumMay.f bt262.1).bind fun t270 => (if t270 = true then (some (1, bt262.1, ([] : List ByteArray), wrap64 (a1 + bt262.2))) else ((sleuthref1_bad.f).bind fun bt271 => (some (bt271.1, bt271.2.1, bt271.2.2.1, bt271.2.2.2))))))) else (none)))))) else (none)) else (none))
end
abbrev sleuthref1_parts.Said (k : Nat) : Prop := ∀ (a0 : ByteArray) (a1_0 : Int) (a1_1 : Int) (P1_2_ : Nat → Prop) (u9000_ : Value) (l1_2 : List ByteArray) (a1_3 : Int) (a2 : Int) (r1 : Int) (r2 : Int) (r3 : List ByteArray) (r4 : Int) (w0 w : World) (hB : Below w0.heap.size w0 w) (ho1_2 : Kd.R Kd.string 9 w w0.heap.size P1_2_ u9000_ l1_2) (h : sleuthref1_parts.f k a0 a1_0 a1_1 l1_2 a1_3 a2 = some (r1, r2, r3, r4)),
    Calls Tryd.prog 33 #[.string a0, .agg #[.int .i64 a1_0, .int .i64 a1_1, u9000_, .int .i64 a1_3], .int .i64 a2] w fun e w' => ∃ v2_ : Value, e = .returned (.agg #[.int .i64 r1, .int .i64 r2, v2_, .int .i64 r4]) ∧ Kd.R Kd.string 9 w' w0.heap.size (fun k_ => (P1_2_ k_ ∨ w.heap.size ≤ k_)) v2_ r3 ∧ Below w0.heap.size w0 w' ∧ Kept w w' (fun k_ => P1_2_ k_)
abbrev sleuthref1_term.Said (k : Nat) : Prop := ∀ (a0 : ByteArray) (a1 : Int) (r1 : Int) (r2 : Int) (r3 : List ByteArray) (r4 : Int) (w : World) (h : sleuthref1_term.f k a0 a1 = some (r1, r2, r3, r4)),
    Calls Tryd.prog 29 #[.string a0, .int .i64 a1] w fun e w' => ∃ v2_ : Value, e = .returned (.agg #[.int .i64 r1, .int .i64 r2, v2_, .int .i64 r4]) ∧ Kd.R Kd.string 9 w' w.heap.size (fun _ => True) v2_ r3 ∧ Below w.heap.size w w'
def sleuthref1_parts.T5 : Bool × List (List Nat × List Nat) := (true, [([], []), ([0], [0]), ([], []), ([], []), ([], []), ([4], [4]), ([2, 3, 5], [2, 3, 5]), ([6], [6]), ([1, 7], [1, 7]), ([0, 1, 2, 3, 4, 5, 6, 7, 8], []), ([9, 8, 8, 0, 1, 2, 3, 4, 5, 6, 7, 8], [8, 9])])
def sleuthref1_parts.B5 : List Nat := [0, 1, 0, 0, 0, 16, 60, 124, 255, 511, 1023]
theorem sleuthref1_parts.tab5 : rtab .any (opsOf Tryd.f33 5) = sleuthref1_parts.T5 := by kernel_rfl
theorem sleuthref1_parts.bits5 : waitsOk sleuthref1_parts.T5.2 sleuthref1_parts.B5 = true := by kernel_rfl
set_option maxHeartbeats 8000000 in
set_option maxRecDepth 100000 in
theorem sleuthref1_parts.step (k : Nat) (ih : ∀ m, m < k → sleuthref1_parts.Said m) (ih_sleuthref1_term : ∀ m, m < k → sleuthref1_term.Said m) : sleuthref1_parts.Said k := by
  intro a0 a1_0 a1_1 P1_2_ u9000_ l1_2 a1_3 a2 r1 r2 r3 r4 w0 w hB ho1_2 h
  cases k with
  | zero => exact absurd h (by simp [sleuthref1_parts.f])
  | succ k =>
  simp only [sleuthref1_parts.f] at h
  have hu59 := Tryd.underlying59
  have P1 := Aside0.mk (show Kd.R Kd.string 9 w w0.heap.size (fun k_ => (P1_2_ k_ ∨ w.heap.size ≤ k_)) u9000_ l1_2 from Kd.R_mono ho1_2 (fun k_ hk => (.inl hk)))
  have HK := Aside0.mk (Kept.refl w (fun k_ => P1_2_ k_))
  have HW0 := Aside0.mk hB.size
  have HB := Aside0.mk hB
  clear hB
  have H : (sleuthref1_parts.l0 k a0 a2 a1_0 a1_1 l1_2 a1_3) = some (r1, r2, r3, r4) := h
  clear h
  have H' := Aside0.mk H
  clear H
  obtain ⟨a4, o2, e3⟩ := Kd.R_slice P1.out
  subst e3
  go_enter Tryd.func33, Tryd.ntmps33
  go_wp2_with (first | ((with_reducible refine gate_dst (N := 4) rfl ?_); (try (refine gate_guard (by rfl) ?_; dsimp only)); refine boxE_ 4 #[.int .i64 a1_0, .int .i64 a1_1, .slice a4 l1_2.length o2, .int .i64 a1_3] 59 ?_; intro g0 hg w5 hbox hb; have n0_ := Aside0.mk (Kd.R_below (hR_ P1.out) hb); have n1_ := Aside0.mk (Kept.below (S := (fun k_ => P1_2_ k_)) (by repeat (first | (with_reducible first | exact HK.out | apply Kept.alloc | apply Kept.drewN | apply Kept.drew) | exact HK.out)) hb); have n2_ := Aside0.mk (below_step hB_ hb); have n3_ := Aside0.mk (hbox); have n4_ := Aside0.mk ((by rw [hg]; exact (by first | exact HK.out.1 | exact (show Kept w _ (fun k_ => P1_2_ k_) from by repeat (first | (with_reducible first | exact HK.out | apply Kept.alloc | apply Kept.drewN | apply Kept.drew) | exact HK.out)).1) : w.heap.size ≤ g0)); have n5_ := Aside0.mk ((gE_ hg : w0.heap.size ≤ g0)); clear P1 HK HB; have P1 := n0_; have HK := n1_; have HB := n2_; have B0 := n3_; have W0 := n4_; have E0 := n5_; clear n0_ n1_ n2_ n3_ n4_ n5_; clear hb hbox hg) | ((with_reducible refine gate_dst (N := 6) rfl ?_); (try (refine gate_guard (by rfl) ?_; dsimp only)); refine boxE_ 6 #[.int .i64 0, .int .i64 0, .slice none 0 0, .int .i64 0] 59 ?_; intro g2 hg w6 hbox hb; have n0_ := Aside0.mk (Kd.R_below (hR_ P1.out) hb); have n1_ := Aside0.mk (bB_ B0.out hb); have n2_ := Aside0.mk (Kept.below (S := (fun k_ => P1_2_ k_)) (by repeat (first | (with_reducible first | exact HK.out | apply Kept.alloc | apply Kept.drewN | apply Kept.drew | refine Kept.setCell ?_ (.inr W0.out) _) | exact HK.out)) hb); have n3_ := Aside0.mk (below_step hC_ hb); have n4_ := Aside0.mk (hbox); have n5_ := Aside0.mk ((by rw [hg]; exact (by first | exact HK.out.1 | exact (show Kept w _ (fun k_ => P1_2_ k_) from by repeat (first | (with_reducible first | exact HK.out | apply Kept.alloc | apply Kept.drewN | apply Kept.drew | refine Kept.setCell ?_ (.inr W0.out) _) | exact HK.out)).1) : w.heap.size ≤ g2)); have n6_ := Aside0.mk ((gE_ hg : w0.heap.size ≤ g2)); have n7_ := Aside0.mk ((bL_ B0.out hg : g0 ≠ g2)); have n8_ := Aside0.mk ((bG_ B0.out hg : g2 ≠ g0)); clear P1 B0 HK HB; have P1 := n0_; have B0 := n1_; have HK := n2_; have HB := n3_; have B2 := n4_; have W1 := n5_; have E1 := n6_; have N4 := n7_; have N2 := n8_; clear n0_ n1_ n2_ n3_ n4_ n5_ n6_ n7_ n8_; clear hb hbox hg))
  (try simp only [Act.put, List.setIfInBounds_toArray, List.set_cons_zero, List.set_cons_succ])
  go_loopg [2] k (fun kq v2 w' => ∃ (x1 : Int) (x0 : List ByteArray) (x2 : Int) (x3 : Int) (x4 : Int) (x5 : Int) (u0 : Value), v2 = .int .i64 x1 ∧ Aside0 (sleuthref1_parts.l0 kq a0 x1 a1_0 a1_1 x0 x2 = some (r1, r2, r3, r4)) ∧ Aside0 (kq ≤ k) ∧ Aside0 (Kd.R Kd.string 9 w' w0.heap.size (fun k_ => (P1_2_ k_ ∨ w.heap.size ≤ k_)) u0 x0) ∧ Aside0 (w'.heap[g0]? = some (.cells #[.int .i64 a1_0, .int .i64 a1_1, u0, .int .i64 x2] 59 (0, 0))) ∧ Aside0 (w'.heap[g2]? = some (.cells #[.int .i64 x3, .int .i64 x4, (.slice none 0 0), .int .i64 x5] 59 (0, 0))) ∧ Aside0 (Kept w w' (fun k_ => P1_2_ k_)) ∧ Aside0 (Below w0.heap.size w0 w'))
  case atStart => exact ⟨(a2), (l1_2), (a1_3), (0), (0), (0), (.slice a4 l1_2.length o2), hW_, H', ⟨Nat.le_refl _⟩, ⟨hR_ P1.out⟩, ⟨(hK_ B0.out)⟩, ⟨(hK_ B2.out)⟩, ⟨by repeat (first | (with_reducible first | exact HK.out | apply Kept.alloc | apply Kept.drewN | apply Kept.drew | refine Kept.setCell ?_ (.inr W0.out) _ | refine Kept.setCell ?_ (.inr W1.out) _) | exact HK.out)⟩, ⟨hC_⟩⟩
  case round =>
    clear H'
    try clear p2
    try clear c3
    obtain ⟨x1, x0, x2, x3, x4, x5, u0, rfl, HA, HK1, O0, B0, B2, HK, HB⟩ := hrel
    cases gk with
    | zero => exact absurd HA.out (by simp [sleuthref1_parts.l0])
    | succ k1 =>
      have H := HA.out
      clear HA
      simp only [sleuthref1_parts.l0] at H
      by_cases c7 : (x0.length : Int) < 3
      case neg =>
        rw [if_neg c7] at H
        have c7b0 : decide ((x0.length : Int) < 3) = false := decide_eq_false c7
        have c7b1 : decide (x0.length < 3) = false := decide_eq_false (by omega)
        clear c7
        replace H := Option.bind_eq_some_iff.mp H
        obtain ⟨⟨t4, t5, t6, t7⟩, A720, H⟩ := H
        replace H : (some (t4, t5, t6, t7)) = some (r1, r2, r3, r4) := H
        have A72 := Aside0.mk A720
        clear A720
        simp only [Option.some.injEq, Prod.mk.injEq] at H
        obtain ⟨rfl, rfl, rfl, rfl⟩ := H
        have m0 := N4.out
        have n0 := N2.out
        obtain ⟨z16, z17, z18, z19, f16, f17, f18, f19⟩ := bx4_ B0.out
        obtain ⟨a11, o9, e4⟩ := Kd.R_slice O0.out
        subst e4
        go_wp2_with (first | ((with_reducible refine gate_callee (f := 31) rfl ?_); refine goesL_ (some 55) rfl rfl Tryd.func31 (by kernel_rfl) rfl #[] rfl hL_ ?_; (with_reducible refine (sleuthref1_bad.calls  t4 t5 t6 t7 _ A72.out).mono ?_); rintro e w2 ⟨v3, rfl, ho0, hb⟩; refine ⟨_, rfl, ?_⟩; have n0_ := Aside0.mk (Kd.R_elder' (hR_ O0.out) (Kd.R_base ho0) hb); have n1_ := Aside0.mk (Kd.R_lower (Kd.R_new' (Kd.R_newM (M := fun k_ => (P1_2_ k_ ∨ w.heap.size ≤ k_)) ho0 (by first | exact HK.out.1 | exact (show Kept w _ (fun k_ => P1_2_ k_) from by repeat (first | (with_reducible first | exact HK.out | apply Kept.alloc | apply Kept.drewN | apply Kept.drew | refine Kept.setCell ?_ (.inr W0.out) _ | refine Kept.setCell ?_ (.inr W1.out) _) | exact HK.out)).1) (fun k_ h_ => .inr h_)) (Kd.R_lt (hR_ O0.out))) (below_size hC_)); have n2_ := Aside0.mk (bB_ B0.out hb); have n3_ := Aside0.mk (bB_ B2.out hb); have n4_ := Aside0.mk (Kept.below (S := (fun k_ => P1_2_ k_)) (by repeat (first | (with_reducible first | exact HK.out | apply Kept.alloc | apply Kept.drewN | apply Kept.drew | refine Kept.setCell ?_ (.inr W0.out) _ | refine Kept.setCell ?_ (.inr W1.out) _) | exact HK.out)) hb); have n5_ := Aside0.mk (below_step hC_ hb); clear O0 B0 B2 HK HB; have O0 := n0_; have P3 := n1_; have B0 := n2_; have B2 := n3_; have HK := n4_; have HB := n5_; clear n0_ n1_ n2_ n3_ n4_ n5_; (try clear hb); (try clear hb2); (try clear hk); (try clear hi); (try clear ho0); obtain ⟨z20, z21, z22, z23, f20, f21, f22, f23⟩ := bx4_ B2.out; obtain ⟨a6, o4, e5⟩ := Kd.R_slice P3.out; subst e5))
        refine bodyPost_ret (results_cell_row rfl _ _ g2 59 #[.int .i64 t4, .int .i64 t5, .slice a6 t6.length o4, .int .i64 t7] (0, 0) _ rfl (bP_ (bP_ (bP_ (bP_ (hK_ B2.out))))) Tryd.underlying59 rfl (by kernel_rfl)) rfl ?_
        exact ⟨_, hV_, hR_ (Kd.R_mono (rF_ (rF_ (rF_ (rF_ (Kd.R_types P3.out B2.out (by decide)))))) (fun _ hk => hk.1.1.1)), hC_, by repeat (first | (with_reducible first | exact HK.out | apply Kept.alloc | apply Kept.drewN | apply Kept.drew | refine Kept.setCell ?_ (.inr W0.out) _ | refine Kept.setCell ?_ (.inr W1.out) _) | exact HK.out)⟩

      rw [if_pos c7] at H
      have c7b0 : decide ((x0.length : Int) < 3) = true := decide_eq_true c7
      have c7b1 : decide (x0.length < 3) = true := decide_eq_true (by omega)
      clear c7
      replace H := Option.bind_eq_some_iff.mp H
      obtain ⟨⟨t2, t3, t1, t0⟩, A80, H⟩ := H
      replace H : (if t0 < 0 then (sleuthref1_parts.j1 k1 a0 x1 true a1_0 a1_1 x0 x2 t2 t3 t1 t0) else (sleuthref1_parts.j1 k1 a0 x1 (decide (t0 ≥ (a0.size : Int))) a1_0 a1_1 x0 x2 t2 t3 t1 t0)) = some (r1, r2, r3, r4) := H
      have A8 := Aside0.mk A80
      clear A80
      have HC9 := Aside0.mk H
      clear H
      have m1 := N4.out
      have n1 := N2.out
      obtain ⟨z0, z1, z2, z3, f0, f1, f2, f3⟩ := bx4_ B0.out
      obtain ⟨a3, o1, e6⟩ := Kd.R_slice O0.out
      subst e6
      go_upto_region 3 with (first | ((with_reducible refine gate_callee (f := 29) rfl ?_); refine goesL_ (some 14) rfl rfl Tryd.func29 (by kernel_rfl) rfl #[.string a0, .int .i64 x1] rfl hL_ ?_; (with_reducible refine (ih_sleuthref1_term k1 (by have := HK1.out; omega) a0 x1 t2 t3 t1 t0 _ A8.out).mono ?_); rintro e w3 ⟨v4, rfl, ho0, hb⟩; refine ⟨_, rfl, ?_⟩; have n0_ := Aside0.mk (Kd.R_elder' (hR_ O0.out) (Kd.R_base ho0) hb); have n1_ := Aside0.mk (Kd.R_lower (Kd.R_new' (Kd.R_newM (M := fun k_ => (P1_2_ k_ ∨ w.heap.size ≤ k_)) ho0 (by first | exact HK.out.1 | exact (show Kept w _ (fun k_ => P1_2_ k_) from by repeat (first | (with_reducible first | exact HK.out | apply Kept.alloc | apply Kept.drewN | apply Kept.drew | refine Kept.setCell ?_ (.inr W0.out) _ | refine Kept.setCell ?_ (.inr W1.out) _) | exact HK.out)).1) (fun k_ h_ => .inr h_)) (Kd.R_lt (hR_ O0.out))) (below_size hC_)); have n2_ := Aside0.mk (bB_ B0.out hb); have n3_ := Aside0.mk (bB_ B2.out hb); have n4_ := Aside0.mk (Kept.below (S := (fun k_ => P1_2_ k_)) (by repeat (first | (with_reducible first | exact HK.out | apply Kept.alloc | apply Kept.drewN | apply Kept.drew | refine Kept.setCell ?_ (.inr W0.out) _ | refine Kept.setCell ?_ (.inr W1.out) _) | exact HK.out)) hb); have n5_ := Aside0.mk (below_step hC_ hb); clear O0 B0 B2 HK HB; have O0 := n0_; have P2 := n1_; have B0 := n2_; have B2 := n3_; have HK := n4_; have HB := n5_; clear n0_ n1_ n2_ n3_ n4_ n5_; (try clear hb); (try clear hb2); (try clear hk); (try clear hi); (try clear ho0)) | ((with_reducible refine gate_dst (N := 7) rfl ?_); (try (refine gate_guard (by rfl) ?_; dsimp only)); refine boxE_ 7 #[.int .i64 0, .int .i64 0, .slice none 0 0, .int .i64 0] 59 ?_; intro g1 hg w4 hbox hb; have n0_ := Aside0.mk (Kd.R_below (hR_ O0.out) hb); have n1_ := Aside0.mk (Kd.R_below (hR_ P2.out) hb); have n2_ := Aside0.mk (bB_ B0.out hb); have n3_ := Aside0.mk (bB_ B2.out hb); have n4_ := Aside0.mk (Kept.below (S := (fun k_ => P1_2_ k_)) (by repeat (first | (with_reducible first | exact HK.out | apply Kept.alloc | apply Kept.drewN | apply Kept.drew | refine Kept.setCell ?_ (.inr W0.out) _ | refine Kept.setCell ?_ (.inr W1.out) _) | exact HK.out)) hb); have n5_ := Aside0.mk (below_step hC_ hb); have n6_ := Aside0.mk (hbox); have n7_ := Aside0.mk ((by rw [hg]; exact (by first | exact HK.out.1 | exact (show Kept w _ (fun k_ => P1_2_ k_) from by repeat (first | (with_reducible first | exact HK.out | apply Kept.alloc | apply Kept.drewN | apply Kept.drew | refine Kept.setCell ?_ (.inr W0.out) _ | refine Kept.setCell ?_ (.inr W1.out) _) | exact HK.out)).1) : w.heap.size ≤ g1)); have n8_ := Aside0.mk ((gE_ hg : w0.heap.size ≤ g1)); have n9_ := Aside0.mk ((bL_ B0.out hg : g0 ≠ g1)); have n10_ := Aside0.mk ((bG_ B0.out hg : g1 ≠ g0)); have n11_ := Aside0.mk ((bL_ B2.out hg : g2 ≠ g1)); have n12_ := Aside0.mk ((bG_ B2.out hg : g1 ≠ g2)); clear O0 P2 B0 B2 HK HB; have O0 := n0_; have P2 := n1_; have B0 := n2_; have B2 := n3_; have HK := n4_; have HB := n5_; have B1 := n6_; have W2 := n7_; have E2 := n8_; have N0 := n9_; have N3 := n10_; have N1 := n11_; have N5 := n12_; clear n0_ n1_ n2_ n3_ n4_ n5_ n6_ n7_ n8_ n9_ n10_ n11_ n12_; clear hb hbox hg; have m2 := N3.out; have n2 := N0.out; have m3 := N5.out; have n3 := N1.out; obtain ⟨z4, z5, z6, z7, f4, f5, f6, f7⟩ := bx4_ B1.out; obtain ⟨a1, o0, e7⟩ := Kd.R_slice P2.out; subst e7))
      (try simp only [Act.put, List.setIfInBounds_toArray, List.set_cons_zero, List.set_cons_succ])
      go_cut [24] (fun v1 wc => ∃ (kq : Nat) (x6 : Bool), v1 = .bool x6 ∧ Aside0 (sleuthref1_parts.j1 kq a0 x1 x6 a1_0 a1_1 x0 x2 t2 t3 t1 t0 = some (r1, r2, r3, r4)) ∧ Aside0 (kq ≤ k1) ∧ Aside0 (Kd.R Kd.string 9 wc w0.heap.size (fun k_ => (P1_2_ k_ ∨ w.heap.size ≤ k_) ∧ some k_ ≠ ((.slice a1 t1.length o0) : Value).ownBlock) (.slice a3 x0.length o1) x0) ∧ Aside0 (Kd.R Kd.string 9 wc w0.heap.size (fun k_ => (P1_2_ k_ ∨ w.heap.size ≤ k_) ∧ some k_ ≠ ((.slice a3 x0.length o1) : Value).ownBlock) (.slice a1 t1.length o0) t1) ∧ Aside0 (wc.heap[g0]? = some (.cells #[.int .i64 a1_0, .int .i64 a1_1, (.slice a3 x0.length o1), .int .i64 x2] 59 (0, 0))) ∧ Aside0 (wc.heap[g2]? = some (.cells #[.int .i64 x3, .int .i64 x4, (.slice none 0 0), .int .i64 x5] 59 (0, 0))) ∧ Aside0 (wc.heap[g1]? = some (.cells #[.int .i64 t2, .int .i64 t3, (.slice a1 t1.length o0), .int .i64 t0] 59 (0, 0))) ∧ Aside0 (Kept w wc (fun k_ => P1_2_ k_)) ∧ Aside0 (Below w0.heap.size w0 wc))
      case first =>
        have H := HC9.out
        clear HC9
        by_cases c19 : t0 < 0
        case pos =>
          rw [if_pos c19] at H
          have c19b0 : decide (t0 < 0) = true := decide_eq_true c19
          clear c19
          (first | rw [c19b0] | (simp only [i64_w, i32_w]; rw [c19b0]) | skip)
          have H' := Aside0.mk H
          clear H
          have m4 := N3.out
          have n4 := N0.out
          have m5 := N5.out
          have n5 := N1.out
          obtain ⟨z8, z9, z10, z11, f8, f9, f10, f11⟩ := bx4_ B1.out
          go_wp2
          go_meet
          case rel => exact ⟨_, (true), hW_, H', ⟨by have := HK1.out; first | omega | exact Nat.le_refl _⟩, ⟨by (with_reducible repeat (first | apply Kd.R_alloc | apply Kd.R_drewN | apply Kd.R_drew)); exact Kd.R_mono (rF_ (rF_ (rF_ (rF_ (Kd.R_types O0.out B1.out (by decide)))))) (fun _ hk => ⟨hk.1.1, hk.1.2⟩)⟩, ⟨by (with_reducible repeat (first | apply Kd.R_alloc | apply Kd.R_drewN | apply Kd.R_drew)); exact Kd.R_mono (rF_ (rF_ (rF_ (rF_ (Kd.R_types P2.out B1.out (by decide)))))) (fun _ hk => ⟨hk.1.1.1, hk.1.2⟩)⟩, ⟨(bF_ (bF_ (bF_ (bF_ (hK_ B0.out) N0.out) N0.out) N0.out) N0.out)⟩, ⟨(bF_ (bF_ (bF_ (bF_ (hK_ B2.out) N1.out) N1.out) N1.out) N1.out)⟩, ⟨(bP_ (bP_ (bP_ (bP_ (hK_ B1.out)))))⟩, ⟨by repeat (first | (with_reducible first | exact HK.out | apply Kept.alloc | apply Kept.drewN | apply Kept.drew | refine Kept.setCell ?_ (.inr W0.out) _ | refine Kept.setCell ?_ (.inr W1.out) _ | refine Kept.setCell ?_ (.inr W2.out) _) | exact HK.out)⟩, ⟨hC_⟩⟩
        rw [if_neg c19] at H
        have c19b0 : decide (t0 < 0) = false := decide_eq_false c19
        clear c19
        (first | rw [c19b0] | (simp only [i64_w, i32_w]; rw [c19b0]) | skip)
        have H' := Aside0.mk H
        clear H
        have m6 := N3.out
        have n6 := N0.out
        have m7 := N5.out
        have n7 := N1.out
        obtain ⟨z12, z13, z14, z15, f12, f13, f14, f15⟩ := bx4_ B1.out
        go_wp2
        go_meet
        case rel => exact ⟨_, (decide (t0 ≥ (a0.size : Int))), hW_, H', ⟨by have := HK1.out; first | omega | exact Nat.le_refl _⟩, ⟨by (with_reducible repeat (first | apply Kd.R_alloc | apply Kd.R_drewN | apply Kd.R_drew)); exact Kd.R_mono (rF_ (rF_ (rF_ (rF_ (Kd.R_types O0.out B1.out (by decide)))))) (fun _ hk => ⟨hk.1.1, hk.1.2⟩)⟩, ⟨by (with_reducible repeat (first | apply Kd.R_alloc | apply Kd.R_drewN | apply Kd.R_drew)); exact Kd.R_mono (rF_ (rF_ (rF_ (rF_ (Kd.R_types P2.out B1.out (by decide)))))) (fun _ hk => ⟨hk.1.1.1, hk.1.2⟩)⟩, ⟨(bF_ (bF_ (bF_ (bF_ (hK_ B0.out) N0.out) N0.out) N0.out) N0.out)⟩, ⟨(bF_ (bF_ (bF_ (bF_ (hK_ B2.out) N1.out) N1.out) N1.out) N1.out)⟩, ⟨(bP_ (bP_ (bP_ (bP_ (hK_ B1.out)))))⟩, ⟨by repeat (first | (with_reducible first | exact HK.out | apply Kept.alloc | apply Kept.drewN | apply Kept.drew | refine Kept.setCell ?_ (.inr W0.out) _ | refine Kept.setCell ?_ (.inr W1.out) _ | refine Kept.setCell ?_ (.inr W2.out) _) | exact HK.out)⟩, ⟨hC_⟩⟩
      case rest =>
        clear HC9
        try clear c1
        try clear c2
        try clear p2
        try clear c3
        try clear c7
        try clear c7b0
        try clear c7b1
        try clear c10
        try clear c15
        try clear c16
        try clear c19
        try clear c19b0
        try clear c20
        try clear c21
        try clear c23
        try clear c24
        try clear z0
        try clear z1
        try clear z2
        try clear z3
        try clear z4
        try clear z5
        try clear z6
        try clear z7
        try clear z8
        try clear z9
        try clear z10
        try clear z11
        try clear z12
        try clear z13
        try clear z14
        try clear z15
        try clear f0
        try clear f1
        try clear f2
        try clear f3
        try clear f4
        try clear f5
        try clear f6
        try clear f7
        try clear f8
        try clear f9
        try clear f10
        try clear f11
        try clear f12
        try clear f13
        try clear f14
        try clear f15
        try clear p2
        obtain ⟨kq, x6, rfl, HA, HJ8, O0, O1, B0, B2, B1, HK, HB⟩ := hcut
        cases kq with
        | zero => exact absurd HA.out (by simp [sleuthref1_parts.j1])
        | succ kj8 =>
          have H := HA.out
          clear HA
          simp only [sleuthref1_parts.j1] at H
          by_cases c26 : x6 = true
          case pos =>
            subst c26
            have H1 : ((sleuthref1_bad.f).bind fun bt203 => (some (bt203.1, bt203.2.1, bt203.2.2.1, bt203.2.2.2))) = some (r1, r2, r3, r4) := by rw [if_pos rfl] at H; exact H
            clear H
            have H := H1
            clear H1
            replace H := Option.bind_eq_some_iff.mp H
            obtain ⟨⟨t8, t9, t10, t11⟩, A270, H⟩ := H
            replace H : (some (t8, t9, t10, t11)) = some (r1, r2, r3, r4) := H
            have A27 := Aside0.mk A270
            clear A270
            simp only [Option.some.injEq, Prod.mk.injEq] at H
            obtain ⟨rfl, rfl, rfl, rfl⟩ := H
            go_wp2_with (first | ((with_reducible refine gate_callee (f := 31) rfl ?_); refine goesL_ (some 25) rfl rfl Tryd.func31 (by kernel_rfl) rfl #[] rfl hL_ ?_; (with_reducible refine (sleuthref1_bad.calls  t8 t9 t10 t11 _ A27.out).mono ?_); rintro e w7 ⟨v5, rfl, ho0, hb⟩; refine ⟨_, rfl, ?_⟩; have n0_ := Aside0.mk (Kd.R_elder' (hR_ O0.out) (Kd.R_base ho0) hb); have n1_ := Aside0.mk (Kd.R_elder' (hR_ O1.out) (Kd.R_base ho0) hb); have n2_ := Aside0.mk (Kd.R_lower (Kd.R_new' (Kd.R_new' (Kd.R_newM (M := fun k_ => (P1_2_ k_ ∨ w.heap.size ≤ k_)) ho0 (by first | exact HK.out.1 | exact (show Kept w _ (fun k_ => P1_2_ k_) from by repeat (first | (with_reducible first | exact HK.out | apply Kept.alloc | apply Kept.drewN | apply Kept.drew | refine Kept.setCell ?_ (.inr W0.out) _ | refine Kept.setCell ?_ (.inr W1.out) _ | refine Kept.setCell ?_ (.inr W2.out) _) | exact HK.out)).1) (fun k_ h_ => .inr h_)) (Kd.R_lt (hR_ O0.out))) (Kd.R_lt (hR_ O1.out))) (below_size hC_)); have n3_ := Aside0.mk (bB_ B0.out hb); have n4_ := Aside0.mk (bB_ B2.out hb); have n5_ := Aside0.mk (bB_ B1.out hb); have n6_ := Aside0.mk (Kept.below (S := (fun k_ => P1_2_ k_)) (by repeat (first | (with_reducible first | exact HK.out | apply Kept.alloc | apply Kept.drewN | apply Kept.drew | refine Kept.setCell ?_ (.inr W0.out) _ | refine Kept.setCell ?_ (.inr W1.out) _ | refine Kept.setCell ?_ (.inr W2.out) _) | exact HK.out)) hb); have n7_ := Aside0.mk (below_step hC_ hb); clear O0 O1 B0 B2 B1 HK HB; have O0 := n0_; have O1 := n1_; have P4 := n2_; have B0 := n3_; have B2 := n4_; have B1 := n5_; have HK := n6_; have HB := n7_; clear n0_ n1_ n2_ n3_ n4_ n5_ n6_ n7_; (try clear hb); (try clear hb2); (try clear hk); (try clear hi); (try clear ho0); have m8 := N2.out; have n8 := N4.out; have m9 := N1.out; have n9 := N5.out; obtain ⟨z24, z25, z26, z27, f24, f25, f26, f27⟩ := bx4_ B2.out; obtain ⟨a7, o5, e8⟩ := Kd.R_slice P4.out; subst e8))
            refine bodyPost_ret (results_cell_row rfl _ _ g2 59 #[.int .i64 t8, .int .i64 t9, .slice a7 t10.length o5, .int .i64 t11] (0, 0) _ rfl (bP_ (bP_ (bP_ (bP_ (hK_ B2.out))))) Tryd.underlying59 rfl (by kernel_rfl)) rfl ?_
            exact ⟨_, hV_, hR_ (Kd.R_mono (rF_ (rF_ (rF_ (rF_ (Kd.R_types P4.out B2.out (by decide)))))) (fun _ hk => hk.1.1.1.1)), hC_, by repeat (first | (with_reducible first | exact HK.out | apply Kept.alloc | apply Kept.drewN | apply Kept.drew | refine Kept.setCell ?_ (.inr W0.out) _ | refine Kept.setCell ?_ (.inr W1.out) _ | refine Kept.setCell ?_ (.inr W2.out) _) | exact HK.out)⟩
          replace c26 := Bool.eq_false_iff.mpr c26
          subst c26
          have H1 : (if 0 ≤ x1 then (if x1 ≤ t0 then (if t0 ≤ (a0.size : Int) then (if x0.length < 8796093022208 then ((some (x0 ++ [a0.extract (x1 : Int).toNat (t0 : Int).toNat] : List ByteArray)).bind fun y0 => (if 0 ≤ t0 then (if t0 < (a0.size : Int) then (if (bt a0 t0) = 41 then (some (a1_0, a1_1, y0, wrap64 (t0 + 1))) else (if (bt a0 t0) = 32 then (sleuthref1_parts.l0 kj8 a0 (wrap64 (t0 + 1)) a1_0 a1_1 y0 x2) else ((sleuthref1_bad.f).bind fun bt212 => (some (bt212.1, bt212.2.1, bt212.2.2.1, bt212.2.2.2))))) else (none)) else (none))) else (none)) else (none)) else (none)) else (none)) = some (r1, r2, r3, r4) := by rw [if_neg (show ¬ (false = true) by decide)] at H; exact H
          clear H
          have H := H1
          clear H1
          replace H := ifI_ H; obtain ⟨c33, H⟩ := H
          have c33b0 := eq_true c33
          have c33b1 : decide (0 ≤ x1) = true := decide_eq_true c33
          clear c33
          replace H := ifI_ H; obtain ⟨c34, H⟩ := H
          have c34b0 := eq_true c34
          have c34b1 : decide (x1 ≤ t0) = true := decide_eq_true c34
          clear c34
          replace H := ifI_ H; obtain ⟨c35, H⟩ := H
          have c35b0 := eq_true c35
          have c35b1 : decide (t0 ≤ (a0.size : Int)) = true := decide_eq_true c35
          clear c35
          replace H := ifI_ H; obtain ⟨c36, H⟩ := H
          have LMc36 := Aside0.mk c36
          clear c36
          obtain ⟨y0, i0⟩ : ∃ y_ : List ByteArray, y_ = (x0 ++ [a0.extract (x1 : Int).toNat (t0 : Int).toNat]) := ⟨_, rfl⟩
          replace H : (if 0 ≤ t0 then (if t0 < (a0.size : Int) then (if (bt a0 t0) = 41 then (some (a1_0, a1_1, y0, wrap64 (t0 + 1))) else (if (bt a0 t0) = 32 then (sleuthref1_parts.l0 kj8 a0 (wrap64 (t0 + 1)) a1_0 a1_1 y0 x2) else ((sleuthref1_bad.f).bind fun bt212 => (some (bt212.1, bt212.2.1, bt212.2.2.1, bt212.2.2.2))))) else (none)) else (none)) = some (r1, r2, r3, r4) := by first | (rw [i0]; with_reducible exact H) | (have H2_ := (Option.bind_some _ _).symm.trans H; rw [i0]; with_reducible exact H2_) | (have H2_ := (Option.bind_some _ _).symm.trans H; with_reducible exact H2_) | with_reducible exact H | (rw [i0]; exact H) | exact H
          have Y0 := Aside0.mk i0
          clear i0
          replace H := ifI_ H; obtain ⟨c37, H⟩ := H
          have c37b0 : decide (0 ≤ t0) = true := decide_eq_true c37
          clear c37
          replace H := ifI_ H; obtain ⟨c38, H⟩ := H
          have c38b0 : decide (t0 < (a0.size : Int)) = true := decide_eq_true c38
          clear c38
          by_cases c40 : (bt a0 t0) = 41
          case pos =>
            rw [if_pos c40] at H
            have c40b0 : ((bt a0 t0) == 41) = true := beq_iff_eq.mpr c40
            have c40b1 : ((bt a0 t0) != 41) = false := bne_eq_false_iff_eq.mpr c40
            clear c40
            simp only [Option.some.injEq, Prod.mk.injEq] at H
            obtain ⟨rfl, rfl, rfl, rfl⟩ := H
            try go_wp2
            have n0_ := Aside0.mk (Kd.R_drew O0.out)
            have n1_ := Aside0.mk (Kd.R_drew O1.out)
            have n2_ := Aside0.mk (blk_drew B0.out)
            have n3_ := Aside0.mk (blk_drew B2.out)
            have n4_ := Aside0.mk (blk_drew B1.out)
            have n5_ := Aside0.mk (Kept.drew HK.out)
            have n6_ := Aside0.mk (below_drew1 HB.out)
            clear O0
            clear O1
            clear B0
            clear B2
            clear B1
            clear HK
            clear HB
            have O0 := n0_
            have O1 := n1_
            have B0 := n2_
            have B2 := n3_
            have B1 := n4_
            have HK := n5_
            have HB := n6_
            clear n0_ n1_ n2_ n3_ n4_ n5_ n6_
            refine start_ (n := 11) (S := fun w' => w'.cell? ⟨g0, 0, none⟩ = some (.int .i64 a1_0) ∧ w'.cell? ⟨g0, 1, none⟩ = some (.int .i64 a1_1) ∧ w'.cell? ⟨g0, 2, none⟩ = some (.slice a3 x0.length o1) ∧ w'.cell? ⟨g0, 3, none⟩ = some (.int .i64 x2) ∧ w'.cell? ⟨g1, 0, none⟩ = some (.int .i64 t2) ∧ w'.cell? ⟨g1, 1, none⟩ = some (.int .i64 t3) ∧ w'.cell? ⟨g1, 2, none⟩ = some (.slice a1 t1.length o0) ∧ w'.cell? ⟨g1, 3, none⟩ = some (.int .i64 t0)) (ds := [10]) #[false, false, false, false, false, false, false, false, false, false, false] (by kernel_rfl) rfl rfl ⟨(blk_cell B0.out 0).trans rfl, (blk_cell B0.out 1).trans rfl, (blk_cell B0.out 2).trans rfl, (blk_cell B0.out 3).trans rfl, (blk_cell B1.out 0).trans rfl, (blk_cell B1.out 1).trans rfl, (blk_cell B1.out 2).trans rfl, (blk_cell B1.out 3).trans rfl⟩ (fun hHeld => ?_); refine with_tabW sleuthref1_parts.tab5 sleuthref1_parts.bits5 (fun HT_ HW_ => ?_)
            generalize wc.drew = w8 at O0 O1 B0 B2 B1 HK HB hHeld ⊢
            refine pA_ 0 26 #[true, false, false, false, false, false, false, false, false, false, false] HT_.out ?_
            refine pA_ 2 28 #[true, false, true, false, false, false, false, false, false, false, false] HT_.out ?_
            refine pA_ 3 29 #[true, false, true, true, false, false, false, false, false, false, false] HT_.out ?_
            refine pA_ 4 30 #[true, false, true, true, true, false, false, false, false, false, false] HT_.out ?_
            refine tA_ 1 27 #[true, true, true, true, true, false, false, false, false, false, false] HT_.out HW_.out hHeld ?_
            refine tA_ 5 31 #[true, true, true, true, true, true, false, false, false, false, false] HT_.out HW_.out hHeld ?_
            refine pA_ 6 32 #[true, true, true, true, true, true, true, false, false, false, false] HT_.out ?_
            refine one_ (i := 7) (N := some 33) #[true, true, true, true, true, true, true, true, false, false, false] rfl rfl (one_of HT_.out (by kernel_rfl)) (by decide) (fun K hK => ?_)
            refine value_ (w1 := ?_) (v := ?_) (by rfl) rfl ?_ ?_
            rotate_left 2
            · go_simp
              constructor
              · rfl
              · rfl
            refine hK.out _ _ ⟨(blk_cell (blk_alloc B0.out _) 0).trans rfl, (blk_cell (blk_alloc B0.out _) 1).trans rfl, (blk_cell (blk_alloc B0.out _) 2).trans rfl, (blk_cell (blk_alloc B0.out _) 3).trans rfl, (blk_cell (blk_alloc B1.out _) 0).trans rfl, (blk_cell (blk_alloc B1.out _) 1).trans rfl, (blk_cell (blk_alloc B1.out _) 2).trans rfl, (blk_cell (blk_alloc B1.out _) 3).trans rfl⟩ (fun hHeld => ?_)
            clear hK K
            refine norm_ (a' := ?_) ?_ ?_
            rotate_left
            · show Act.put _ (some 33) _ = _
              simp only [Act.put, List.setIfInBounds_toArray, List.set_cons_zero, List.set_cons_succ, i64_w, i32_w]
              rfl
            refine one_ (i := 8) (N := some 34) #[true, true, true, true, true, true, true, true, true, false, false] rfl rfl (one_of HT_.out (by kernel_rfl)) (by decide) (fun K hK => ?_)
            refine Kd.R_append_step Kd.string (w0 := w0) w0.heap.size (by rfl) (.tmp 27) (.tmp 33) 33 9 (.string ⟨#[]⟩) 16 rfl Tryd.underlying33 info9 rfl (by decide) (by omega) (.slice a3 x0.length o1) x0 (a0.extract (x1 : Int).toNat (t0 : Int).toNat) [.string (a0.extract (x1 : Int).toNat (t0 : Int).toNat)] (fun k_ => (P1_2_ k_ ∨ w.heap.size ≤ k_) ∧ some k_ ≠ (.slice a1 t1.length o0 : Value).ownBlock) (fun _ => False) rfl rfl ?aP (fun _ hk => hk.elim) ?aF ?aO ?aB ?aS ?aL ?_
            (case aP => exact rfl)
            (case aB => exact hC_)
            (case aF => exact (fun k_ hk => ⟨(.inr (Nat.le_trans (by first | exact HK.out.1 | exact (show Kept w _ (fun k_ => P1_2_ k_) from by repeat (first | (with_reducible first | exact HK.out | apply Kept.alloc | apply Kept.drewN | apply Kept.drew | refine Kept.setCell ?_ (.inr W0.out) _ | refine Kept.setCell ?_ (.inr W1.out) _ | refine Kept.setCell ?_ (.inr W2.out) _) | exact HK.out)).1) hk)), Kd.fresh' (Kd.R_lt (hR_ O1.out)) k_ hk⟩))
            (case aO => exact (hR_ O0.out))
            (case aS => exact (below_size hC_))
            (case aL => have := LMc36.out; omega)
            intro v0 w9 ho hb hg hat
            rw [← Y0.out] at ho
            have n0_ := Aside0.mk (Kd.R_after (ok := (fun k_ => (P1_2_ k_ ∨ w.heap.size ≤ k_))) (hR_ O1.out) hg hat)
            have n1_ := Aside0.mk (blk_grown (hK_ B0.out) hg (Kd.R_ne O0.out B0.out (by decide)))
            have n2_ := Aside0.mk (blk_grown (hK_ B2.out) hg (Kd.R_ne O0.out B2.out (by decide)))
            have n3_ := Aside0.mk (blk_grown (hK_ B1.out) hg (Kd.R_ne O0.out B1.out (by decide)))
            have n4_ := Aside0.mk (hb)
            have n5_ := Aside0.mk (Kept.of_grown (S := (fun k_ => P1_2_ k_)) hg (by repeat (first | (with_reducible first | exact HK.out | apply Kept.alloc | apply Kept.drewN | apply Kept.drew | refine Kept.setCell ?_ (.inr W0.out) _ | refine Kept.setCell ?_ (.inr W1.out) _ | refine Kept.setCell ?_ (.inr W2.out) _) | exact HK.out)) (fun k_ e_ => (O0.out.1 k_ e_).1))
            have n6_ := Aside0.mk (ho)
            clear O1
            clear B0
            clear B2
            clear B1
            clear HB
            clear HK
            clear O0
            have O1 := n0_
            have B0 := n1_
            have B2 := n2_
            have B1 := n3_
            have HB := n4_
            have HK := n5_
            have P0 := n6_
            clear n0_ n1_ n2_ n3_ n4_ n5_ n6_
            clear ho hb hg hat
            obtain ⟨a5, o3, e0⟩ := Kd.R_slice P0.out
            (first | subst e0 | (injection e0 with f1_ f2_ f3_; have f4_ := f1_.symm; have f5_ := f3_.symm; clear f1_ f2_ f3_; subst f4_; subst f5_))
            refine hK.out _ _ ⟨(blk_cell B0.out 0).trans rfl, (blk_cell B0.out 1).trans rfl, (blk_cell B0.out 2).trans rfl, (blk_cell B0.out 3).trans rfl, (blk_cell B1.out 0).trans rfl, (blk_cell B1.out 1).trans rfl, (blk_cell B1.out 2).trans rfl, (blk_cell B1.out 3).trans rfl⟩ (fun hHeld => ?_)
            clear hK K
            refine norm_ (a' := ?_) ?_ ?_
            rotate_left
            · show Act.put _ (some 34) _ = _
              simp only [Act.put, List.setIfInBounds_toArray, List.set_cons_zero, List.set_cons_succ, i64_w, i32_w]
              rfl
            refine pA_ 9 35 #[true, true, true, true, true, true, true, true, true, true, false] HT_.out ?_
            refine last_ (i := 10) (N := none) #[true, true, true, true, true, true, true, true, true, true, true] rfl rfl (one_of HT_.out (by kernel_rfl)) (by decide) (fun K hK => ?_)
            have hs44 := bc2_ B0.out
            have hfs44 := blk_frozen B0.out 2
            have hns44_1 := N2.out
            have hns44_2 := N3.out
            have hms44_1 := N4.out
            have hms44_2 := N0.out
            refine skip_ (w1 := ?_) (by rfl) rfl ?_ ?_
            rotate_left
            · go_simp
              rfl
            refine hK.out _ _ ?_
            clear hK K
            refine done_ (done_of HT_.out (by kernel_rfl)) ?_
            have m10 := N3.out
            have n10 := N0.out
            have m11 := N5.out
            have n11 := N1.out
            obtain ⟨z28, z29, z30, z31, f28, f29, f30, f31⟩ := bx4_ B1.out
            have p39 : 0 ≤ (t0 : Int) := of_decide_eq_true hA_
            have q39 : t0 < (a0.size : Int) := of_decide_eq_true hA_
            have h0 := bt_at a0 t0
            replace p39 := eq_true p39
            replace q39 := eq_true q39
            have m12 := N4.out
            have n12 := N2.out
            obtain ⟨z32, z33, z34, z35, f32, f33, f34, f35⟩ := bx4_ B0.out
            obtain ⟨z36, z37, z38, z39, f36, f37, f38, f39⟩ := bx4_ B2.out
            try go_wp2
            refine bodyPost_ret (results_cell_row rfl _ _ g2 59 #[.int .i64 a1_0, .int .i64 a1_1, .slice a5 y0.length o3, .int .i64 (wrap64 (t0 + 1))] (0, 0) _ rfl (bP_ (bP_ (bP_ (bP_ (bF_ (bF_ (hK_ B2.out) N2.out) N2.out))))) Tryd.underlying59 rfl (by kernel_rfl)) rfl ?_
            exact ⟨_, hV_, by (with_reducible repeat (first | apply Kd.R_alloc | apply Kd.R_drewN | apply Kd.R_drew)); exact Kd.R_mono (rF_ (rF_ (rF_ (rF_ (Kd.R_far (p := ⟨g0, 3, none⟩) (Kd.R_far (p := ⟨g0, 2, none⟩) (Kd.R_types (Kd.R_types P0.out B0.out (by decide)) B2.out (by decide)) (fun _ hk => hk.1.2) (.slice a5 y0.length o3)) (fun _ hk => hk.1.2) (.int .i64 (wrap64 (t0 + 1)))))))) (fun _ hk => hk.1.1.1), hC_, by repeat (first | (with_reducible first | exact HK.out | apply Kept.alloc | apply Kept.drewN | apply Kept.drew | refine Kept.setCell ?_ (.inr W0.out) _ | refine Kept.setCell ?_ (.inr W1.out) _ | refine Kept.setCell ?_ (.inr W2.out) _) | exact HK.out)⟩
          rw [if_neg c40] at H
          have c40b0 : ((bt a0 t0) == 41) = false := beq_eq_false_iff_ne.mpr c40
          have c40b1 : ((bt a0 t0) != 41) = true := bne_iff_ne.mpr c40
          by_cases c52 : (bt a0 t0) = 32
          case pos =>
            rw [if_pos c52] at H
            have c52b0 : ((bt a0 t0) == 32) = true := beq_iff_eq.mpr c52
            have c52b1 : ((bt a0 t0) != 32) = false := bne_eq_false_iff_eq.mpr c52
            clear c52
            have H' := Aside0.mk H
            clear H
            try go_wp2
            have n0_ := Aside0.mk (Kd.R_drew O0.out)
            have n1_ := Aside0.mk (Kd.R_drew O1.out)
            have n2_ := Aside0.mk (blk_drew B0.out)
            have n3_ := Aside0.mk (blk_drew B2.out)
            have n4_ := Aside0.mk (blk_drew B1.out)
            have n5_ := Aside0.mk (Kept.drew HK.out)
            have n6_ := Aside0.mk (below_drew1 HB.out)
            clear O0
            clear O1
            clear B0
            clear B2
            clear B1
            clear HK
            clear HB
            have O0 := n0_
            have O1 := n1_
            have B0 := n2_
            have B2 := n3_
            have B1 := n4_
            have HK := n5_
            have HB := n6_
            clear n0_ n1_ n2_ n3_ n4_ n5_ n6_
            refine start_ (n := 11) (S := fun w' => w'.cell? ⟨g0, 0, none⟩ = some (.int .i64 a1_0) ∧ w'.cell? ⟨g0, 1, none⟩ = some (.int .i64 a1_1) ∧ w'.cell? ⟨g0, 2, none⟩ = some (.slice a3 x0.length o1) ∧ w'.cell? ⟨g0, 3, none⟩ = some (.int .i64 x2) ∧ w'.cell? ⟨g1, 0, none⟩ = some (.int .i64 t2) ∧ w'.cell? ⟨g1, 1, none⟩ = some (.int .i64 t3) ∧ w'.cell? ⟨g1, 2, none⟩ = some (.slice a1 t1.length o0) ∧ w'.cell? ⟨g1, 3, none⟩ = some (.int .i64 t0)) (ds := [10]) #[false, false, false, false, false, false, false, false, false, false, false] (by kernel_rfl) rfl rfl ⟨(blk_cell B0.out 0).trans rfl, (blk_cell B0.out 1).trans rfl, (blk_cell B0.out 2).trans rfl, (blk_cell B0.out 3).trans rfl, (blk_cell B1.out 0).trans rfl, (blk_cell B1.out 1).trans rfl, (blk_cell B1.out 2).trans rfl, (blk_cell B1.out 3).trans rfl⟩ (fun hHeld => ?_); refine with_tabW sleuthref1_parts.tab5 sleuthref1_parts.bits5 (fun HT_ HW_ => ?_)
            generalize wc.drew = w53 at O0 O1 B0 B2 B1 HK HB hHeld ⊢
            refine pA_ 0 26 #[true, false, false, false, false, false, false, false, false, false, false] HT_.out ?_
            refine pA_ 2 28 #[true, false, true, false, false, false, false, false, false, false, false] HT_.out ?_
            refine pA_ 3 29 #[true, false, true, true, false, false, false, false, false, false, false] HT_.out ?_
            refine pA_ 4 30 #[true, false, true, true, true, false, false, false, false, false, false] HT_.out ?_
            refine tA_ 1 27 #[true, true, true, true, true, false, false, false, false, false, false] HT_.out HW_.out hHeld ?_
            refine tA_ 5 31 #[true, true, true, true, true, true, false, false, false, false, false] HT_.out HW_.out hHeld ?_
            refine pA_ 6 32 #[true, true, true, true, true, true, true, false, false, false, false] HT_.out ?_
            refine one_ (i := 7) (N := some 33) #[true, true, true, true, true, true, true, true, false, false, false] rfl rfl (one_of HT_.out (by kernel_rfl)) (by decide) (fun K hK => ?_)
            refine value_ (w1 := ?_) (v := ?_) (by rfl) rfl ?_ ?_
            rotate_left 2
            · go_simp
              constructor
              · rfl
              · rfl
            refine hK.out _ _ ⟨(blk_cell (blk_alloc B0.out _) 0).trans rfl, (blk_cell (blk_alloc B0.out _) 1).trans rfl, (blk_cell (blk_alloc B0.out _) 2).trans rfl, (blk_cell (blk_alloc B0.out _) 3).trans rfl, (blk_cell (blk_alloc B1.out _) 0).trans rfl, (blk_cell (blk_alloc B1.out _) 1).trans rfl, (blk_cell (blk_alloc B1.out _) 2).trans rfl, (blk_cell (blk_alloc B1.out _) 3).trans rfl⟩ (fun hHeld => ?_)
            clear hK K
            refine norm_ (a' := ?_) ?_ ?_
            rotate_left
            · show Act.put _ (some 33) _ = _
              simp only [Act.put, List.setIfInBounds_toArray, List.set_cons_zero, List.set_cons_succ, i64_w, i32_w]
              rfl
            refine one_ (i := 8) (N := some 34) #[true, true, true, true, true, true, true, true, true, false, false] rfl rfl (one_of HT_.out (by kernel_rfl)) (by decide) (fun K hK => ?_)
            refine Kd.R_append_step Kd.string (w0 := w0) w0.heap.size (by rfl) (.tmp 27) (.tmp 33) 33 9 (.string ⟨#[]⟩) 16 rfl Tryd.underlying33 info9 rfl (by decide) (by omega) (.slice a3 x0.length o1) x0 (a0.extract (x1 : Int).toNat (t0 : Int).toNat) [.string (a0.extract (x1 : Int).toNat (t0 : Int).toNat)] (fun k_ => (P1_2_ k_ ∨ w.heap.size ≤ k_) ∧ some k_ ≠ (.slice a1 t1.length o0 : Value).ownBlock) (fun _ => False) rfl rfl ?aP (fun _ hk => hk.elim) ?aF ?aO ?aB ?aS ?aL ?_
            (case aP => exact rfl)
            (case aB => exact hC_)
            (case aF => exact (fun k_ hk => ⟨(.inr (Nat.le_trans (by first | exact HK.out.1 | exact (show Kept w _ (fun k_ => P1_2_ k_) from by repeat (first | (with_reducible first | exact HK.out | apply Kept.alloc | apply Kept.drewN | apply Kept.drew | refine Kept.setCell ?_ (.inr W0.out) _ | refine Kept.setCell ?_ (.inr W1.out) _ | refine Kept.setCell ?_ (.inr W2.out) _) | exact HK.out)).1) hk)), Kd.fresh' (Kd.R_lt (hR_ O1.out)) k_ hk⟩))
            (case aO => exact (hR_ O0.out))
            (case aS => exact (below_size hC_))
            (case aL => have := LMc36.out; omega)
            intro v0 w54 ho hb hg hat
            rw [← Y0.out] at ho
            have n0_ := Aside0.mk (Kd.R_after (ok := (fun k_ => (P1_2_ k_ ∨ w.heap.size ≤ k_))) (hR_ O1.out) hg hat)
            have n1_ := Aside0.mk (blk_grown (hK_ B0.out) hg (Kd.R_ne O0.out B0.out (by decide)))
            have n2_ := Aside0.mk (blk_grown (hK_ B2.out) hg (Kd.R_ne O0.out B2.out (by decide)))
            have n3_ := Aside0.mk (blk_grown (hK_ B1.out) hg (Kd.R_ne O0.out B1.out (by decide)))
            have n4_ := Aside0.mk (hb)
            have n5_ := Aside0.mk (Kept.of_grown (S := (fun k_ => P1_2_ k_)) hg (by repeat (first | (with_reducible first | exact HK.out | apply Kept.alloc | apply Kept.drewN | apply Kept.drew | refine Kept.setCell ?_ (.inr W0.out) _ | refine Kept.setCell ?_ (.inr W1.out) _ | refine Kept.setCell ?_ (.inr W2.out) _) | exact HK.out)) (fun k_ e_ => (O0.out.1 k_ e_).1))
            have n6_ := Aside0.mk (ho)
            clear O1
            clear B0
            clear B2
            clear B1
            clear HB
            clear HK
            clear O0
            have O1 := n0_
            have B0 := n1_
            have B2 := n2_
            have B1 := n3_
            have HB := n4_
            have HK := n5_
            have P0 := n6_
            clear n0_ n1_ n2_ n3_ n4_ n5_ n6_
            clear ho hb hg hat
            obtain ⟨a8, o6, e1⟩ := Kd.R_slice P0.out
            (first | subst e1 | (injection e1 with f1_ f2_ f3_; have f4_ := f1_.symm; have f5_ := f3_.symm; clear f1_ f2_ f3_; subst f4_; subst f5_))
            refine hK.out _ _ ⟨(blk_cell B0.out 0).trans rfl, (blk_cell B0.out 1).trans rfl, (blk_cell B0.out 2).trans rfl, (blk_cell B0.out 3).trans rfl, (blk_cell B1.out 0).trans rfl, (blk_cell B1.out 1).trans rfl, (blk_cell B1.out 2).trans rfl, (blk_cell B1.out 3).trans rfl⟩ (fun hHeld => ?_)
            clear hK K
            refine norm_ (a' := ?_) ?_ ?_
            rotate_left
            · show Act.put _ (some 34) _ = _
              simp only [Act.put, List.setIfInBounds_toArray, List.set_cons_zero, List.set_cons_succ, i64_w, i32_w]
              rfl
            refine pA_ 9 35 #[true, true, true, true, true, true, true, true, true, true, false] HT_.out ?_
            refine last_ (i := 10) (N := none) #[true, true, true, true, true, true, true, true, true, true, true] rfl rfl (one_of HT_.out (by kernel_rfl)) (by decide) (fun K hK => ?_)
            have hs56 := bc2_ B0.out
            have hfs56 := blk_frozen B0.out 2
            have hns56_1 := N2.out
            have hns56_2 := N3.out
            have hms56_1 := N4.out
            have hms56_2 := N0.out
            refine skip_ (w1 := ?_) (by rfl) rfl ?_ ?_
            rotate_left
            · go_simp
              rfl
            refine hK.out _ _ ?_
            clear hK K
            refine done_ (done_of HT_.out (by kernel_rfl)) ?_
            have m13 := N3.out
            have n13 := N0.out
            have m14 := N5.out
            have n14 := N1.out
            obtain ⟨z40, z41, z42, z43, f40, f41, f42, f43⟩ := bx4_ B1.out
            have p39 : 0 ≤ (t0 : Int) := of_decide_eq_true hA_
            have q39 : t0 < (a0.size : Int) := of_decide_eq_true hA_
            have h0 := bt_at a0 t0
            replace p39 := eq_true p39
            replace q39 := eq_true q39
            have p51 : 0 ≤ (t0 : Int) := of_decide_eq_true hA_
            have q51 : t0 < (a0.size : Int) := of_decide_eq_true hA_
            have h1 := bt_at a0 t0
            replace p51 := eq_true p51
            replace q51 := eq_true q51
            try go_wp2
            go_roundg kj8
            case measure => have := HK1.out; have := HJ8.out; omega
            case rel => exact ⟨(wrap64 (t0 + 1)), (y0), (x2), (x3), (x4), (x5), (.slice a8 y0.length o6), hW_, H', ⟨by have := HK1.out; have := HJ8.out; omega⟩, ⟨hR_ (Kd.R_mono (rF_ (Kd.R_types P0.out B0.out (by decide))) (fun _ hk => hk.1.1))⟩, ⟨(bP_ (hK_ B0.out))⟩, ⟨(bF_ (hK_ B2.out) N2.out)⟩, ⟨by repeat (first | (with_reducible first | exact HK.out | apply Kept.alloc | apply Kept.drewN | apply Kept.drew | refine Kept.setCell ?_ (.inr W0.out) _ | refine Kept.setCell ?_ (.inr W1.out) _ | refine Kept.setCell ?_ (.inr W2.out) _) | exact HK.out)⟩, ⟨hC_⟩⟩
          rw [if_neg c52] at H
          have c52b0 : ((bt a0 t0) == 32) = false := beq_eq_false_iff_ne.mpr c52
          have c52b1 : ((bt a0 t0) != 32) = true := bne_iff_ne.mpr c52
          replace H := Option.bind_eq_some_iff.mp H
          obtain ⟨⟨t12, t13, t14, t15⟩, A600, H⟩ := H
          replace H : (some (t12, t13, t14, t15)) = some (r1, r2, r3, r4) := H
          have A60 := Aside0.mk A600
          clear A600
          simp only [Option.some.injEq, Prod.mk.injEq] at H
          obtain ⟨rfl, rfl, rfl, rfl⟩ := H
          try go_wp2
          have n0_ := Aside0.mk (Kd.R_drew O0.out)
          have n1_ := Aside0.mk (Kd.R_drew O1.out)
          have n2_ := Aside0.mk (blk_drew B0.out)
          have n3_ := Aside0.mk (blk_drew B2.out)
          have n4_ := Aside0.mk (blk_drew B1.out)
          have n5_ := Aside0.mk (Kept.drew HK.out)
          have n6_ := Aside0.mk (below_drew1 HB.out)
          clear O0
          clear O1
          clear B0
          clear B2
          clear B1
          clear HK
          clear HB
          have O0 := n0_
          have O1 := n1_
          have B0 := n2_
          have B2 := n3_
          have B1 := n4_
          have HK := n5_
          have HB := n6_
          clear n0_ n1_ n2_ n3_ n4_ n5_ n6_
          refine start_ (n := 11) (S := fun w' => w'.cell? ⟨g0, 0, none⟩ = some (.int .i64 a1_0) ∧ w'.cell? ⟨g0, 1, none⟩ = some (.int .i64 a1_1) ∧ w'.cell? ⟨g0, 2, none⟩ = some (.slice a3 x0.length o1) ∧ w'.cell? ⟨g0, 3, none⟩ = some (.int .i64 x2) ∧ w'.cell? ⟨g1, 0, none⟩ = some (.int .i64 t2) ∧ w'.cell? ⟨g1, 1, none⟩ = some (.int .i64 t3) ∧ w'.cell? ⟨g1, 2, none⟩ = some (.slice a1 t1.length o0) ∧ w'.cell? ⟨g1, 3, none⟩ = some (.int .i64 t0)) (ds := [10]) #[false, false, false, false, false, false, false, false, false, false, false] (by kernel_rfl) rfl rfl ⟨(blk_cell B0.out 0).trans rfl, (blk_cell B0.out 1).trans rfl, (blk_cell B0.out 2).trans rfl, (blk_cell B0.out 3).trans rfl, (blk_cell B1.out 0).trans rfl, (blk_cell B1.out 1).trans rfl, (blk_cell B1.out 2).trans rfl, (blk_cell B1.out 3).trans rfl⟩ (fun hHeld => ?_); refine with_tabW sleuthref1_parts.tab5 sleuthref1_parts.bits5 (fun HT_ HW_ => ?_)
          generalize wc.drew = w61 at O0 O1 B0 B2 B1 HK HB hHeld ⊢
          refine pA_ 0 26 #[true, false, false, false, false, false, false, false, false, false, false] HT_.out ?_
          refine pA_ 2 28 #[true, false, true, false, false, false, false, false, false, false, false] HT_.out ?_
          refine pA_ 3 29 #[true, false, true, true, false, false, false, false, false, false, false] HT_.out ?_
          refine pA_ 4 30 #[true, false, true, true, true, false, false, false, false, false, false] HT_.out ?_
          refine tA_ 1 27 #[true, true, true, true, true, false, false, false, false, false, false] HT_.out HW_.out hHeld ?_
          refine tA_ 5 31 #[true, true, true, true, true, true, false, false, false, false, false] HT_.out HW_.out hHeld ?_
          refine pA_ 6 32 #[true, true, true, true, true, true, true, false, false, false, false] HT_.out ?_
          refine one_ (i := 7) (N := some 33) #[true, true, true, true, true, true, true, true, false, false, false] rfl rfl (one_of HT_.out (by kernel_rfl)) (by decide) (fun K hK => ?_)
          refine value_ (w1 := ?_) (v := ?_) (by rfl) rfl ?_ ?_
          rotate_left 2
          · go_simp
            constructor
            · rfl
            · rfl
          refine hK.out _ _ ⟨(blk_cell (blk_alloc B0.out _) 0).trans rfl, (blk_cell (blk_alloc B0.out _) 1).trans rfl, (blk_cell (blk_alloc B0.out _) 2).trans rfl, (blk_cell (blk_alloc B0.out _) 3).trans rfl, (blk_cell (blk_alloc B1.out _) 0).trans rfl, (blk_cell (blk_alloc B1.out _) 1).trans rfl, (blk_cell (blk_alloc B1.out _) 2).trans rfl, (blk_cell (blk_alloc B1.out _) 3).trans rfl⟩ (fun hHeld => ?_)
          clear hK K
          refine norm_ (a' := ?_) ?_ ?_
          rotate_left
          · show Act.put _ (some 33) _ = _
            simp only [Act.put, List.setIfInBounds_toArray, List.set_cons_zero, List.set_cons_succ, i64_w, i32_w]
            rfl
          refine one_ (i := 8) (N := some 34) #[true, true, true, true, true, true, true, true, true, false, false] rfl rfl (one_of HT_.out (by kernel_rfl)) (by decide) (fun K hK => ?_)
          refine Kd.R_append_step Kd.string (w0 := w0) w0.heap.size (by rfl) (.tmp 27) (.tmp 33) 33 9 (.string ⟨#[]⟩) 16 rfl Tryd.underlying33 info9 rfl (by decide) (by omega) (.slice a3 x0.length o1) x0 (a0.extract (x1 : Int).toNat (t0 : Int).toNat) [.string (a0.extract (x1 : Int).toNat (t0 : Int).toNat)] (fun k_ => (P1_2_ k_ ∨ w.heap.size ≤ k_) ∧ some k_ ≠ (.slice a1 t1.length o0 : Value).ownBlock) (fun _ => False) rfl rfl ?aP (fun _ hk => hk.elim) ?aF ?aO ?aB ?aS ?aL ?_
          (case aP => exact rfl)
          (case aB => exact hC_)
          (case aF => exact (fun k_ hk => ⟨(.inr (Nat.le_trans (by first | exact HK.out.1 | exact (show Kept w _ (fun k_ => P1_2_ k_) from by repeat (first | (with_reducible first | exact HK.out | apply Kept.alloc | apply Kept.drewN | apply Kept.drew | refine Kept.setCell ?_ (.inr W0.out) _ | refine Kept.setCell ?_ (.inr W1.out) _ | refine Kept.setCell ?_ (.inr W2.out) _) | exact HK.out)).1) hk)), Kd.fresh' (Kd.R_lt (hR_ O1.out)) k_ hk⟩))
          (case aO => exact (hR_ O0.out))
          (case aS => exact (below_size hC_))
          (case aL => have := LMc36.out; omega)
          intro v0 w62 ho hb hg hat
          rw [← Y0.out] at ho
          have n0_ := Aside0.mk (Kd.R_after (ok := (fun k_ => (P1_2_ k_ ∨ w.heap.size ≤ k_))) (hR_ O1.out) hg hat)
          have n1_ := Aside0.mk (blk_grown (hK_ B0.out) hg (Kd.R_ne O0.out B0.out (by decide)))
          have n2_ := Aside0.mk (blk_grown (hK_ B2.out) hg (Kd.R_ne O0.out B2.out (by decide)))
          have n3_ := Aside0.mk (blk_grown (hK_ B1.out) hg (Kd.R_ne O0.out B1.out (by decide)))
          have n4_ := Aside0.mk (hb)
          have n5_ := Aside0.mk (Kept.of_grown (S := (fun k_ => P1_2_ k_)) hg (by repeat (first | (with_reducible first | exact HK.out | apply Kept.alloc | apply Kept.drewN | apply Kept.drew | refine Kept.setCell ?_ (.inr W0.out) _ | refine Kept.setCell ?_ (.inr W1.out) _ | refine Kept.setCell ?_ (.inr W2.out) _) | exact HK.out)) (fun k_ e_ => (O0.out.1 k_ e_).1))
          have n6_ := Aside0.mk (ho)
          clear O1
          clear B0
          clear B2
          clear B1
          clear HB
          clear HK
          clear O0
          have O1 := n0_
          have B0 := n1_
          have B2 := n2_
          have B1 := n3_
          have HB := n4_
          have HK := n5_
          have P0 := n6_
          clear n0_ n1_ n2_ n3_ n4_ n5_ n6_
          clear ho hb hg hat
          obtain ⟨a9, o7, e2⟩ := Kd.R_slice P0.out
          (first | subst e2 | (injection e2 with f1_ f2_ f3_; have f4_ := f1_.symm; have f5_ := f3_.symm; clear f1_ f2_ f3_; subst f4_; subst f5_))
          refine hK.out _ _ ⟨(blk_cell B0.out 0).trans rfl, (blk_cell B0.out 1).trans rfl, (blk_cell B0.out 2).trans rfl, (blk_cell B0.out 3).trans rfl, (blk_cell B1.out 0).trans rfl, (blk_cell B1.out 1).trans rfl, (blk_cell B1.out 2).trans rfl, (blk_cell B1.out 3).trans rfl⟩ (fun hHeld => ?_)
          clear hK K
          refine norm_ (a' := ?_) ?_ ?_
          rotate_left
          · show Act.put _ (some 34) _ = _
            simp only [Act.put, List.setIfInBounds_toArray, List.set_cons_zero, List.set_cons_succ, i64_w, i32_w]
            rfl
          refine pA_ 9 35 #[true, true, true, true, true, true, true, true, true, true, false] HT_.out ?_
          refine last_ (i := 10) (N := none) #[true, true, true, true, true, true, true, true, true, true, true] rfl rfl (one_of HT_.out (by kernel_rfl)) (by decide) (fun K hK => ?_)
          have hs64 := bc2_ B0.out
          have hfs64 := blk_frozen B0.out 2
          have hns64_1 := N2.out
          have hns64_2 := N3.out
          have hms64_1 := N4.out
          have hms64_2 := N0.out
          refine skip_ (w1 := ?_) (by rfl) rfl ?_ ?_
          rotate_left
          · go_simp
            rfl
          refine hK.out _ _ ?_
          clear hK K
          refine done_ (done_of HT_.out (by kernel_rfl)) ?_
          have m15 := N3.out
          have n15 := N0.out
          have m16 := N5.out
          have n16 := N1.out
          obtain ⟨z44, z45, z46, z47, f44, f45, f46, f47⟩ := bx4_ B1.out
          have p39 : 0 ≤ (t0 : Int) := of_decide_eq_true hA_
          have q39 : t0 < (a0.size : Int) := of_decide_eq_true hA_
          have h0 := bt_at a0 t0
          replace p39 := eq_true p39
          replace q39 := eq_true q39
          have p51 : 0 ≤ (t0 : Int) := of_decide_eq_true hA_
          have q51 : t0 < (a0.size : Int) := of_decide_eq_true hA_
          have h1 := bt_at a0 t0
          replace p51 := eq_true p51
          replace q51 := eq_true q51
          try go_wp2_with (first | ((with_reducible refine gate_callee (f := 31) rfl ?_); refine goesL_ (some 51) rfl rfl Tryd.func31 (by kernel_rfl) rfl #[] rfl hL_ ?_; (with_reducible refine (sleuthref1_bad.calls  t12 t13 t14 t15 _ A60.out).mono ?_); rintro e w68 ⟨v6, rfl, ho0, hb⟩; refine ⟨_, rfl, ?_⟩; have n0_ := Aside0.mk (Kd.R_elder' (by (with_reducible repeat (first | apply Kd.R_alloc | apply Kd.R_drewN | apply Kd.R_drew)); exact (Kd.R_mono (rF_ (Kd.R_types O1.out B0.out (by decide))) (fun _ h_ => h_.1))) (Kd.R_base ho0) hb); have n1_ := Aside0.mk (Kd.R_elder' (by (with_reducible repeat (first | apply Kd.R_alloc | apply Kd.R_drewN | apply Kd.R_drew)); exact (Kd.R_mono (rF_ (Kd.R_types P0.out B0.out (by decide))) (fun _ h_ => h_.1))) (Kd.R_base ho0) hb); have n2_ := Aside0.mk (Kd.R_lower (Kd.R_new' (Kd.R_new' (Kd.R_newM (M := fun k_ => (P1_2_ k_ ∨ w.heap.size ≤ k_)) ho0 (show Kept w _ (fun k_ => P1_2_ k_) from by repeat (first | (with_reducible first | exact HK.out | apply Kept.alloc | apply Kept.drewN | apply Kept.drew | refine Kept.setCell ?_ (.inr W0.out) _ | refine Kept.setCell ?_ (.inr W1.out) _ | refine Kept.setCell ?_ (.inr W2.out) _) | exact HK.out)).1 (fun k_ h_ => .inr h_)) (Kd.R_lt (by (with_reducible repeat (first | apply Kd.R_alloc | apply Kd.R_drewN | apply Kd.R_drew)); exact (Kd.R_mono (rF_ (Kd.R_types O1.out B0.out (by decide))) (fun _ h_ => h_.1))))) (Kd.R_lt (by (with_reducible repeat (first | apply Kd.R_alloc | apply Kd.R_drewN | apply Kd.R_drew)); exact (Kd.R_mono (rF_ (Kd.R_types P0.out B0.out (by decide))) (fun _ h_ => h_.1))))) (below_size hC_)); have n3_ := Aside0.mk (blk_below (g := g0) (o := .cells #[.int .i64 a1_0, .int .i64 a1_1, .slice a9 y0.length o7, .int .i64 x2] 59 (0, 0)) (by (with_reducible repeat (first | refine blk_drewN ?_ _ | refine blk_drew ?_ | refine blk_alloc ?_ _)); exact (bP_ (hK_ B0.out))) hb); have n4_ := Aside0.mk (blk_below (g := g2) (o := .cells #[.int .i64 x3, .int .i64 x4, .slice none 0 0, .int .i64 x5] 59 (0, 0)) (by (with_reducible repeat (first | refine blk_drewN ?_ _ | refine blk_drew ?_ | refine blk_alloc ?_ _)); exact (bF_ (hK_ B2.out) N2.out)) hb); have n5_ := Aside0.mk (blk_below (g := g1) (o := .cells #[.int .i64 t2, .int .i64 t3, .slice a1 t1.length o0, .int .i64 t0] 59 (0, 0)) (by (with_reducible repeat (first | refine blk_drewN ?_ _ | refine blk_drew ?_ | refine blk_alloc ?_ _)); exact (bF_ (hK_ B1.out) N3.out)) hb); have n6_ := Aside0.mk (Kept.below (S := (fun k_ => P1_2_ k_)) (by repeat (first | (with_reducible first | exact HK.out | apply Kept.alloc | apply Kept.drewN | apply Kept.drew | refine Kept.setCell ?_ (.inr W0.out) _ | refine Kept.setCell ?_ (.inr W1.out) _ | refine Kept.setCell ?_ (.inr W2.out) _) | exact HK.out)) hb); have n7_ := Aside0.mk (below_step hC_ hb); clear O1 P0 B0 B2 B1 HK HB; have O1 := n0_; have P0 := n1_; have P5 := n2_; have B0 := n3_; have B2 := n4_; have B1 := n5_; have HK := n6_; have HB := n7_; clear n0_ n1_ n2_ n3_ n4_ n5_ n6_ n7_; (try clear hb); (try clear hb2); (try clear hk); (try clear hi); (try clear ho0); have m17 := N2.out; have n17 := N4.out; obtain ⟨z48, z49, z50, z51, f48, f49, f50, f51⟩ := bx4_ B2.out; obtain ⟨a10, o8, e9⟩ := Kd.R_slice P5.out; subst e9))
          refine bodyPost_ret (results_cell_row rfl _ _ g2 59 #[.int .i64 t12, .int .i64 t13, .slice a10 t14.length o8, .int .i64 t15] (0, 0) _ rfl (bP_ (bP_ (bP_ (bP_ (hK_ B2.out))))) Tryd.underlying59 rfl (by kernel_rfl)) rfl ?_
          exact ⟨_, hV_, hR_ (Kd.R_mono (rF_ (rF_ (rF_ (rF_ (Kd.R_types P5.out B2.out (by decide)))))) (fun _ hk => hk.1.1.1.1)), hC_, by repeat (first | (with_reducible first | exact HK.out | apply Kept.alloc | apply Kept.drewN | apply Kept.drew | refine Kept.setCell ?_ (.inr W0.out) _ | refine Kept.setCell ?_ (.inr W1.out) _ | refine Kept.setCell ?_ (.inr W2.out) _) | exact HK.out)⟩
set_option maxHeartbeats 8000000 in
set_option maxRecDepth 100000 in
theorem sleuthref1_term.step (k : Nat) (ih : ∀ m, m < k → sleuthref1_term.Said m) (ih_sleuthref1_parts : ∀ m, m < k → sleuthref1_parts.Said m) : sleuthref1_term.Said k := by
  intro a0 a1 r1 r2 r3 r4 w h
  cases k with
  | zero => exact absurd h (by simp [sleuthref1_term.f])
  | succ k =>
  simp only [sleuthref1_term.f] at h
  have hu59 := Tryd.underlying59
  have HB := Aside0.mk (Below.refl w.heap.size w)
  have H : (if a1 ≥ (a0.size : Int) then ((sleuthref1_bad.f).bind fun bt220 => (some (bt220.1, bt220.2.1, bt220.2.2.1, bt220.2.2.2))) else (if 0 ≤ a1 then (if a1 < (a0.size : Int) then (if (bt a0 a1) = 95 then (some (0, 0, ([] : List ByteArray), wrap64 (a1 + 1))) else (if (bt a0 a1) = 33 then (some (3, 0, ([] : List ByteArray), wrap64 (a1 + 1))) else (if (bt a0 a1) = 64 then (if 0 ≤ (wrap64 (a1 + 1)) then (if (wrap64 (a1 + 1)) ≤ (a0.size : Int) then ((sleuthref1_digits.f k (a0.extract ((wrap64 (a1 + 1)) : Int).toNat a0.size)).bind fun bt226 => (if bt226.2 = 0 then (sleuthref1_term.j0 k a0 a1 bt226.1 bt226.2 true) else (sleuthref1_term.j0 k a0 a1 bt226.1 bt226.2 (decide (bt226.1 > 99))))) else (none)) else (none)) else (if (bt a0 a1) = 45 then (if 0 ≤ (wrap64 (a1 + 1)) then (if (wrap64 (a1 + 1)) ≤ (a0.size : Int) then ((sleuthref1_digits.f k (a0.extract ((wrap64 (a1 + 1)) : Int).toNat a0.size)).bind fun bt241 => (if bt241.2 = 0 then ((sleuthref1_bad.f).bind fun bt243 => (some (bt243.1, bt243.2.1, bt243.2.2.1, bt243.2.2.2))) else (if bt241.1 = 0 then ((sleuthref1_bad.f).bind fun bt249 => (some (bt249.1, bt249.2.1, bt249.2.2.1, bt249.2.2.2))) else ((sleuthref1_NumMay.f (wrap64 (-bt241.1))).bind fun t6 => (if t6 = true then (some (1, wrap64 (-bt241.1), ([] : List ByteArray), wrap64 ((wrap64 (a1 + 1)) + bt241.2))) else ((sleuthref1_bad.f).bind fun bt256 => (some (bt256.1, bt256.2.1, bt256.2.2.1, bt256.2.2.2)))))))) else (none)) else (none)) else (if a1 ≤ (a0.size : Int) then ((sleuthref1_digits.f k (a0.extract (a1 : Int).toNat a0.size)).bind fun bt262 => (if bt262.2 = 0 then ((sleuthref1_bad.f).bind fun bt264 => (some (bt264.1, bt264.2.1, bt264.2.2.1, bt264.2.2.2))) else ((sleuthref1_NumMay.f bt262.1).bind fun t7 => (if t7 = true then (some (1, bt262.1, ([] : List ByteArray), wrap64 (a1 + bt262.2))) else ((sleuthref1_bad.f).bind fun bt271 => (some (bt271.1, bt271.2.1, bt271.2.2.1, bt271.2.2.2))))))) else (none)))))) else (none)) else (none))) = some (r1, r2, r3, r4) := h
  clear h
  by_cases c3 : a1 ≥ (a0.size : Int)
  case pos =>
    rw [if_pos c3] at H
    have c3b0 : decide ((a0.size : Int) ≤ a1) = true := decide_eq_true c3
    clear c3
    replace H := Option.bind_eq_some_iff.mp H
    obtain ⟨⟨t8, t9, t10, t11⟩, A40, H⟩ := H
    replace H : (some (t8, t9, t10, t11)) = some (r1, r2, r3, r4) := H
    have A4 := Aside0.mk A40
    clear A40
    simp only [Option.some.injEq, Prod.mk.injEq] at H
    obtain ⟨rfl, rfl, rfl, rfl⟩ := H
    go_enter Tryd.func29, Tryd.ntmps29
    go_wp2_with (first | ((with_reducible refine gate_dst (N := 4) rfl ?_); refine boxE_ 4 #[.int .i64 0, .int .i64 0, .slice none 0 0, .int .i64 0] 59 ?_; intro g0 hg w5 hbox hb; have n0_ := Aside0.mk (below_step hB_ hb); have n1_ := Aside0.mk (hbox); have n2_ := Aside0.mk ((gE_ hg : w.heap.size ≤ g0)); have n3_ := Aside0.mk ((gE_ hg : w.heap.size ≤ g0)); clear HB; have HB := n0_; have B0 := n1_; have W0 := n2_; have E0 := n3_; clear n0_ n1_ n2_ n3_; clear hb hbox hg) | ((with_reducible refine gate_callee (f := 31) rfl ?_); refine goesL_ (some 16) rfl rfl Tryd.func31 (by kernel_rfl) rfl #[] rfl hL_ ?_; (with_reducible refine (sleuthref1_bad.calls  t8 t9 t10 t11 _ A4.out).mono ?_); rintro e w6 ⟨v1, rfl, ho0, hb⟩; refine ⟨_, rfl, ?_⟩; have n0_ := Aside0.mk (Kd.R_lower ho0 (below_size hC_)); have n1_ := Aside0.mk (bB_ B0.out hb); have n2_ := Aside0.mk (below_step hC_ hb); clear B0 HB; have P0 := n0_; have B0 := n1_; have HB := n2_; clear n0_ n1_ n2_; (try clear hb); (try clear hb2); (try clear hk); (try clear hi); (try clear ho0); obtain ⟨z0, z1, z2, z3, f0, f1, f2, f3⟩ := bx4_ B0.out; obtain ⟨a2, o0, e0⟩ := Kd.R_slice P0.out; subst e0))
    refine bodyPost_ret (results_cell_row rfl _ _ g0 59 #[.int .i64 t8, .int .i64 t9, .slice a2 t10.length o0, .int .i64 t11] (0, 0) _ rfl (bP_ (bP_ (bP_ (bP_ (hK_ B0.out))))) Tryd.underlying59 rfl (by kernel_rfl)) rfl ?_
    exact ⟨_, hV_, hR_ (Kd.R_mono (rF_ (rF_ (rF_ (rF_ (Kd.R_types P0.out B0.out (by decide)))))) (fun _ hk => trivial)), hC_⟩
  rw [if_neg c3] at H
  have c3b0 : decide ((a0.size : Int) ≤ a1) = false := decide_eq_false c3
  clear c3
  replace H := ifI_ H; obtain ⟨c9, H⟩ := H
  have c9b0 : decide (0 ≤ a1) = true := decide_eq_true c9
  clear c9
  replace H := ifI_ H; obtain ⟨c10, H⟩ := H
  have c10b0 : decide (a1 < (a0.size : Int)) = true := decide_eq_true c10
  clear c10
  by_cases c12 : (bt a0 a1) = 95
  case pos =>
    rw [if_pos c12] at H
    have c12b0 : ((bt a0 a1) == 95) = true := beq_iff_eq.mpr c12
    have c12b1 : ((bt a0 a1) != 95) = false := bne_eq_false_iff_eq.mpr c12
    clear c12
    simp only [Option.some.injEq, Prod.mk.injEq] at H
    obtain ⟨rfl, rfl, rfl, rfl⟩ := H
    go_enter Tryd.func29, Tryd.ntmps29
    go_wp2_with (first | ((with_reducible refine gate_dst (N := 4) rfl ?_); refine boxE_ 4 #[.int .i64 0, .int .i64 0, .slice none 0 0, .int .i64 0] 59 ?_; intro g0 hg w13 hbox hb; have n0_ := Aside0.mk (below_step hB_ hb); have n1_ := Aside0.mk (hbox); have n2_ := Aside0.mk ((gE_ hg : w.heap.size ≤ g0)); have n3_ := Aside0.mk ((gE_ hg : w.heap.size ≤ g0)); clear HB; have HB := n0_; have B0 := n1_; have W0 := n2_; have E0 := n3_; clear n0_ n1_ n2_ n3_; clear hb hbox hg; have p11 : 0 ≤ (a1 : Int) := of_decide_eq_true hA_; have q11 : a1 < (a0.size : Int) := of_decide_eq_true hA_; have h0 := bt_at a0 a1; replace p11 := eq_true p11; replace q11 := eq_true q11; obtain ⟨z4, z5, z6, z7, f4, f5, f6, f7⟩ := bx4_ B0.out))
    refine bodyPost_ret (results_cell_row rfl _ _ g0 59 #[.int .i64 0, .int .i64 0, .slice none 0 0, .int .i64 (wrap64 (a1 + 1))] (0, 0) _ rfl (bP_ (bP_ (bP_ (bP_ (hK_ B0.out))))) Tryd.underlying59 rfl (by kernel_rfl)) rfl ?_
    exact ⟨_, hV_, by first | exact Kd.R_nil _ _ _ _ _ | exact Kd.N_nil _ _ _ _ _ | exact Kd.V_nil _ _ _ _ _ | exact Kd.Q_nil _ _ _ _ _ | exact Kd.S_nil _ _ _ _ _, hC_⟩
  rw [if_neg c12] at H
  have c12b0 : ((bt a0 a1) == 95) = false := beq_eq_false_iff_ne.mpr c12
  have c12b1 : ((bt a0 a1) != 95) = true := bne_iff_ne.mpr c12
  by_cases c15 : (bt a0 a1) = 33
  case pos =>
    rw [if_pos c15] at H
    have c15b0 : ((bt a0 a1) == 33) = true := beq_iff_eq.mpr c15
    have c15b1 : ((bt a0 a1) != 33) = false := bne_eq_false_iff_eq.mpr c15
    clear c15
    simp only [Option.some.injEq, Prod.mk.injEq] at H
    obtain ⟨rfl, rfl, rfl, rfl⟩ := H
    go_enter Tryd.func29, Tryd.ntmps29
    go_wp2_with (first | ((with_reducible refine gate_dst (N := 4) rfl ?_); refine boxE_ 4 #[.int .i64 0, .int .i64 0, .slice none 0 0, .int .i64 0] 59 ?_; intro g0 hg w16 hbox hb; have n0_ := Aside0.mk (below_step hB_ hb); have n1_ := Aside0.mk (hbox); have n2_ := Aside0.mk ((gE_ hg : w.heap.size ≤ g0)); have n3_ := Aside0.mk ((gE_ hg : w.heap.size ≤ g0)); clear HB; have HB := n0_; have B0 := n1_; have W0 := n2_; have E0 := n3_; clear n0_ n1_ n2_ n3_; clear hb hbox hg; have p11 : 0 ≤ (a1 : Int) := of_decide_eq_true hA_; have q11 : a1 < (a0.size : Int) := of_decide_eq_true hA_; have h0 := bt_at a0 a1; replace p11 := eq_true p11; replace q11 := eq_true q11; obtain ⟨z8, z9, z10, z11, f8, f9, f10, f11⟩ := bx4_ B0.out))
    refine bodyPost_ret (results_cell_row rfl _ _ g0 59 #[.int .i64 3, .int .i64 0, .slice none 0 0, .int .i64 (wrap64 (a1 + 1))] (0, 0) _ rfl (bP_ (bP_ (bP_ (bP_ (hK_ B0.out))))) Tryd.underlying59 rfl (by kernel_rfl)) rfl ?_
    exact ⟨_, hV_, by first | exact Kd.R_nil _ _ _ _ _ | exact Kd.N_nil _ _ _ _ _ | exact Kd.V_nil _ _ _ _ _ | exact Kd.Q_nil _ _ _ _ _ | exact Kd.S_nil _ _ _ _ _, hC_⟩
  rw [if_neg c15] at H
  have c15b0 : ((bt a0 a1) == 33) = false := beq_eq_false_iff_ne.mpr c15
  have c15b1 : ((bt a0 a1) != 33) = true := bne_iff_ne.mpr c15
  by_cases c18 : (bt a0 a1) = 64
  case pos =>
    rw [if_pos c18] at H
    have c18b0 : ((bt a0 a1) == 64) = true := beq_iff_eq.mpr c18
    have c18b1 : ((bt a0 a1) != 64) = false := bne_eq_false_iff_eq.mpr c18
    clear c18
    obtain ⟨ji19, hji19⟩ : ∃ j_ : Int, (wrap64 (a1 + 1)) = j_ := ⟨_, rfl⟩
    replace H : (if 0 ≤ (ji19) then (if (ji19) ≤ (a0.size : Int) then ((sleuthref1_digits.f k (a0.extract ((ji19) : Int).toNat a0.size)).bind fun bt226 => (if bt226.2 = 0 then (sleuthref1_term.j0 k a0 a1 bt226.1 bt226.2 true) else (sleuthref1_term.j0 k a0 a1 bt226.1 bt226.2 (decide (bt226.1 > 99))))) else (none)) else (none)) = some (r1, r2, r3, r4) := by first | (rw [hji19] at H; exact H) | (simp only [hji19] at H ⊢; exact H)
    have hji19w : (IntKind.i64.wrap (a1 + 1)) = ji19 := (i64_w _).trans hji19
    replace H := ifI_ H; obtain ⟨c20, H⟩ := H
    have c20b0 := eq_true c20
    have c20b1 : decide (0 ≤ (ji19)) = true := decide_eq_true c20
    clear c20
    replace H := ifI_ H; obtain ⟨c21, H⟩ := H
    have c21b0 := eq_true c21
    have c21b1 : decide ((ji19) ≤ (a0.size : Int)) = true := decide_eq_true c21
    clear c21
    replace H := Option.bind_eq_some_iff.mp H
    obtain ⟨⟨t1, t0⟩, A220, H⟩ := H
    replace H : (if t0 = 0 then (sleuthref1_term.j0 k a0 a1 t1 t0 true) else (sleuthref1_term.j0 k a0 a1 t1 t0 (decide (t1 > 99)))) = some (r1, r2, r3, r4) := H
    have A22 := Aside0.mk A220
    clear A220
    have HC23 := Aside0.mk H
    clear H
    go_enter Tryd.func29, Tryd.ntmps29
    go_upto_region 10 with (first | ((with_reducible refine gate_dst (N := 4) rfl ?_); refine boxE_ 4 #[.int .i64 0, .int .i64 0, .slice none 0 0, .int .i64 0] 59 ?_; intro g0 hg w24 hbox hb; have n0_ := Aside0.mk (below_step hB_ hb); have n1_ := Aside0.mk (hbox); have n2_ := Aside0.mk ((gE_ hg : w.heap.size ≤ g0)); have n3_ := Aside0.mk ((gE_ hg : w.heap.size ≤ g0)); clear HB; have HB := n0_; have B0 := n1_; have W0 := n2_; have E0 := n3_; clear n0_ n1_ n2_ n3_; clear hb hbox hg; have p11 : 0 ≤ (a1 : Int) := of_decide_eq_true hA_; have q11 : a1 < (a0.size : Int) := of_decide_eq_true hA_; have h0 := bt_at a0 a1; replace p11 := eq_true p11; replace q11 := eq_true q11) | ((with_reducible refine gate_callee (f := 32) rfl ?_); refine goesL_ _ rfl rfl Tryd.func32 (by kernel_rfl) rfl #[.string (a0.extract ((ji19) : Int).toNat a0.size)] rfl (by (try simp only [List.map_toArray, List.map_cons, List.map_nil]); first | done | (simp only [hji19]; rfl) | rfl | (simp only [List.length_drop, List.length_take]; rfl)) ?_; (with_reducible refine (sleuthref1_digits.calls k (a0.extract ((ji19) : Int).toNat a0.size) t1 t0 _ A22.out).mono ?_); rintro e w' ⟨rfl, ⟨nd, rfl⟩⟩; refine ⟨_, rfl, ?_⟩))
    (try simp only [Act.put, List.setIfInBounds_toArray, List.set_cons_zero, List.set_cons_succ])
    go_cut [45] (fun v0 wc => ∃ (kq : Nat) (x0 : Bool), v0 = .bool x0 ∧ Aside0 (sleuthref1_term.j0 kq a0 a1 t1 t0 x0 = some (r1, r2, r3, r4)) ∧ Aside0 (kq ≤ k) ∧ Aside0 (wc.heap[g0]? = some (.cells #[.int .i64 0, .int .i64 0, (.slice none 0 0), .int .i64 0] 59 (0, 0))) ∧ Aside0 (Below w.heap.size w wc))
    case first =>
      have H := HC23.out
      clear HC23
      by_cases c25 : t0 = 0
      case neg =>
        rw [if_neg c25] at H
        have c25b0 : (t0 == 0) = false := beq_eq_false_iff_ne.mpr c25
        have c25b1 : (t0 != 0) = true := bne_iff_ne.mpr c25
        (first | rw [c25b0] | (simp only [i64_w, i32_w]; rw [c25b0]) | skip)
        have H' := Aside0.mk H
        clear H
        go_wp2
        go_meet
        case rel => exact ⟨_, (decide (t1 > 99)), hW_, H', ⟨by first | omega | exact Nat.le_refl _⟩, ⟨(hK_ B0.out)⟩, ⟨hC_⟩⟩
      rw [if_pos c25] at H
      have c25b0 : (t0 == 0) = true := beq_iff_eq.mpr c25
      have c25b1 : (t0 != 0) = false := bne_eq_false_iff_eq.mpr c25
      clear c25
      (first | rw [c25b0] | (simp only [i64_w, i32_w]; rw [c25b0]) | skip)
      have H' := Aside0.mk H
      clear H
      go_wp2
      go_meet
      case rel => exact ⟨_, (true), hW_, H', ⟨by first | omega | exact Nat.le_refl _⟩, ⟨(hK_ B0.out)⟩, ⟨hC_⟩⟩
    case rest =>
      clear HC23
      try clear c1
      try clear p1
      try clear q1
      try clear h2
      try clear c2
      try clear p2
      try clear c3
      try clear c3b0
      try clear p6
      try clear c9
      try clear c9b0
      try clear c10
      try clear c10b0
      try clear p11
      try clear q11
      try clear h0
      try clear c12
      try clear c12b0
      try clear c12b1
      try clear c15
      try clear c15b0
      try clear c15b1
      try clear c18
      try clear c18b0
      try clear c18b1
      try clear c20
      try clear c20b0
      try clear c20b1
      try clear c21
      try clear c21b0
      try clear c21b1
      try clear c25
      try clear c25b0
      try clear c25b1
      try clear hji19
      try clear hji19w
      try clear z4
      try clear z5
      try clear z6
      try clear z7
      try clear z8
      try clear z9
      try clear z10
      try clear z11
      try clear z0
      try clear z1
      try clear z2
      try clear z3
      try clear f4
      try clear f5
      try clear f6
      try clear f7
      try clear f8
      try clear f9
      try clear f10
      try clear f11
      try clear f0
      try clear f1
      try clear f2
      try clear f3
      try clear p11
      try clear q11
      obtain ⟨kq, x0, rfl, HA, HJ22, B0, HB⟩ := hcut
      cases kq with
      | zero => exact absurd HA.out (by simp [sleuthref1_term.j0])
      | succ kj22 =>
        have H := HA.out
        clear HA
        simp only [sleuthref1_term.j0] at H
        by_cases c26 : x0 = true
        case pos =>
          subst c26
          have H1 : ((sleuthref1_bad.f).bind fun bt228 => (some (bt228.1, bt228.2.1, bt228.2.2.1, bt228.2.2.2))) = some (r1, r2, r3, r4) := by rw [if_pos rfl] at H; exact H
          clear H
          have H := H1
          clear H1
          replace H := Option.bind_eq_some_iff.mp H
          obtain ⟨⟨t12, t13, t14, t15⟩, A270, H⟩ := H
          replace H : (some (t12, t13, t14, t15)) = some (r1, r2, r3, r4) := H
          have A27 := Aside0.mk A270
          clear A270
          simp only [Option.some.injEq, Prod.mk.injEq] at H
          obtain ⟨rfl, rfl, rfl, rfl⟩ := H
          go_wp2_with (first | ((with_reducible refine gate_callee (f := 31) rfl ?_); refine goesL_ (some 46) rfl rfl Tryd.func31 (by kernel_rfl) rfl #[] rfl hL_ ?_; (with_reducible refine (sleuthref1_bad.calls  t12 t13 t14 t15 _ A27.out).mono ?_); rintro e w28 ⟨v2, rfl, ho0, hb⟩; refine ⟨_, rfl, ?_⟩; have n0_ := Aside0.mk (Kd.R_lower ho0 (below_size hC_)); have n1_ := Aside0.mk (bB_ B0.out hb); have n2_ := Aside0.mk (below_step hC_ hb); clear B0 HB; have P1 := n0_; have B0 := n1_; have HB := n2_; clear n0_ n1_ n2_; (try clear hb); (try clear hb2); (try clear hk); (try clear hi); (try clear ho0); obtain ⟨z12, z13, z14, z15, f12, f13, f14, f15⟩ := bx4_ B0.out; obtain ⟨a3, o1, e1⟩ := Kd.R_slice P1.out; subst e1))
          refine bodyPost_ret (results_cell_row rfl _ _ g0 59 #[.int .i64 t12, .int .i64 t13, .slice a3 t14.length o1, .int .i64 t15] (0, 0) _ rfl (bP_ (bP_ (bP_ (bP_ (hK_ B0.out))))) Tryd.underlying59 rfl (by kernel_rfl)) rfl ?_
          exact ⟨_, by first | rfl | (simp [errW_none, errW_some] <;> rfl) | (simp only [← hji19]; first | rfl | (simp [errW_none, errW_some] <;> rfl)) | (simp [*, errW_none, errW_some] <;> rfl), hR_ (Kd.R_mono (rF_ (rF_ (rF_ (rF_ (Kd.R_types P1.out B0.out (by decide)))))) (fun _ hk => trivial)), hC_⟩
        replace c26 := Bool.eq_false_iff.mpr c26
        subst c26
        have H1 : (if (wrap64 ((wrap64 (a1 + 1)) + t0)) < (a0.size : Int) then (if 0 ≤ (wrap64 ((wrap64 (a1 + 1)) + t0)) then (if (bt a0 (wrap64 ((wrap64 (a1 + 1)) + t0))) = 40 then ((sleuthref1_parts.f kj22 a0 2 t1 ([] : List ByteArray) (wrap64 ((wrap64 (a1 + 1)) + t0)) (wrap64 ((wrap64 ((wrap64 (a1 + 1)) + t0)) + 1))).bind fun bt235 => (some (bt235.1, bt235.2.1, bt235.2.2.1, bt235.2.2.2))) else (some (2, t1, ([] : List ByteArray), wrap64 ((wrap64 (a1 + 1)) + t0)))) else (none)) else (some (2, t1, ([] : List ByteArray), wrap64 ((wrap64 (a1 + 1)) + t0)))) = some (r1, r2, r3, r4) := by rw [if_neg (show ¬ (false = true) by decide)] at H; exact H
        clear H
        have H := H1
        clear H1
        by_cases c31 : (wrap64 ((wrap64 (a1 + 1)) + t0)) < (a0.size : Int)
        case neg =>
          rw [if_neg c31] at H
          have c31b0 : decide ((wrap64 ((wrap64 (a1 + 1)) + t0)) < (a0.size : Int)) = false := decide_eq_false c31
          (try (have c31b0w := c31b0; try (rw [show wrap64 (a1 + 1) = (a1 + 1) from by unfold wrap64; omega] at c31b0w); try (rw [show wrap64 ((wrap64 (a1 + 1)) + t0) = ((wrap64 (a1 + 1)) + t0) from by unfold wrap64; omega] at c31b0w)))
          clear c31
          simp only [Option.some.injEq, Prod.mk.injEq] at H
          obtain ⟨rfl, rfl, rfl, rfl⟩ := H
          go_wp2_with (first | ((with_reducible refine gate_dst (N := 7) rfl ?_); refine boxE_ 7 #[.int .i64 0, .int .i64 0, .slice none 0 0, .int .i64 0] 59 ?_; intro g1 hg w49 hbox hb; have n0_ := Aside0.mk (bB_ B0.out hb); have n1_ := Aside0.mk (below_step hC_ hb); have n2_ := Aside0.mk (hbox); have n3_ := Aside0.mk ((gE_ hg : w.heap.size ≤ g1)); have n4_ := Aside0.mk ((gE_ hg : w.heap.size ≤ g1)); have n5_ := Aside0.mk ((bL_ B0.out hg : g0 ≠ g1)); have n6_ := Aside0.mk ((bG_ B0.out hg : g1 ≠ g0)); clear B0 HB; have B0 := n0_; have HB := n1_; have B1 := n2_; have W1 := n3_; have E1 := n4_; have N0 := n5_; have N1 := n6_; clear n0_ n1_ n2_ n3_ n4_ n5_ n6_; clear hb hbox hg; have m0 := N1.out; have n0 := N0.out; obtain ⟨z16, z17, z18, z19, f16, f17, f18, f19⟩ := bx4_ B1.out; obtain ⟨z20, z21, z22, z23, f20, f21, f22, f23⟩ := bx4_ B0.out))
          refine bodyPost_ret (results_cell_row rfl _ _ g0 59 #[.int .i64 2, .int .i64 t1, .slice none 0 0, .int .i64 (wrap64 ((wrap64 (a1 + 1)) + t0))] (0, 0) _ rfl (bP_ (bP_ (bP_ (bP_ (bF_ (bF_ (bF_ (bF_ (hK_ B0.out) N0.out) N0.out) N0.out) N0.out))))) Tryd.underlying59 rfl (by kernel_rfl)) rfl ?_
          exact ⟨_, by first | rfl | (simp [errW_none, errW_some] <;> rfl) | (simp only [← hji19]; first | rfl | (simp [errW_none, errW_some] <;> rfl)) | (simp [*, errW_none, errW_some] <;> rfl), by first | exact Kd.R_nil _ _ _ _ _ | exact Kd.N_nil _ _ _ _ _ | exact Kd.V_nil _ _ _ _ _ | exact Kd.Q_nil _ _ _ _ _ | exact Kd.S_nil _ _ _ _ _, hC_⟩
        rw [if_pos c31] at H
        have c31b0 : decide ((wrap64 ((wrap64 (a1 + 1)) + t0)) < (a0.size : Int)) = true := decide_eq_true c31
        (try (have c31b0w := c31b0; try (rw [show wrap64 (a1 + 1) = (a1 + 1) from by unfold wrap64; omega] at c31b0w); try (rw [show wrap64 ((wrap64 (a1 + 1)) + t0) = ((wrap64 (a1 + 1)) + t0) from by unfold wrap64; omega] at c31b0w)))
        clear c31
        obtain ⟨ji32, hji32⟩ : ∃ j_ : Int, (wrap64 ((wrap64 (a1 + 1)) + t0)) = j_ := ⟨_, rfl⟩
        replace H : (if 0 ≤ (ji32) then (if (bt a0 (ji32)) = 40 then ((sleuthref1_parts.f kj22 a0 2 t1 ([] : List ByteArray) (ji32) (wrap64 ((ji32) + 1))).bind fun bt235 => (some (bt235.1, bt235.2.1, bt235.2.2.1, bt235.2.2.2))) else (some (2, t1, ([] : List ByteArray), ji32))) else (none)) = some (r1, r2, r3, r4) := by first | (rw [hji32] at H; exact H) | (simp only [hji32] at H ⊢; exact H)
        (try rw [hji32] at c31b0)
        have hji32w : (IntKind.i64.wrap ((wrap64 (a1 + 1)) + t0)) = ji32 := (i64_w _).trans hji32
        (try (have hji32vji19 := hji32; rw [hji19] at hji32vji19))
        (try (have hji32vwji19 := hji32w; rw [hji19] at hji32vwji19))
        replace H := ifI_ H; obtain ⟨c33, H⟩ := H
        have c33b0 : decide (0 ≤ (ji32)) = true := decide_eq_true c33
        clear c33
        by_cases c35 : (bt a0 (ji32)) = 40
        case neg =>
          rw [if_neg c35] at H
          have c35b0 : ((bt a0 (ji32)) == 40) = false := beq_eq_false_iff_ne.mpr c35
          have c35b1 : ((bt a0 (ji32)) != 40) = true := bne_iff_ne.mpr c35
          simp only [Option.some.injEq, Prod.mk.injEq] at H
          obtain ⟨rfl, rfl, rfl, rfl⟩ := H
          go_wp2_with (first | ((with_reducible refine gate_dst (N := 7) rfl ?_); refine boxE_ 7 #[.int .i64 0, .int .i64 0, .slice none 0 0, .int .i64 0] 59 ?_; intro g1 hg w45 hbox hb; have n0_ := Aside0.mk (bB_ B0.out hb); have n1_ := Aside0.mk (below_step hC_ hb); have n2_ := Aside0.mk (hbox); have n3_ := Aside0.mk ((gE_ hg : w.heap.size ≤ g1)); have n4_ := Aside0.mk ((gE_ hg : w.heap.size ≤ g1)); have n5_ := Aside0.mk ((bL_ B0.out hg : g0 ≠ g1)); have n6_ := Aside0.mk ((bG_ B0.out hg : g1 ≠ g0)); clear B0 HB; have B0 := n0_; have HB := n1_; have B1 := n2_; have W1 := n3_; have E1 := n4_; have N0 := n5_; have N1 := n6_; clear n0_ n1_ n2_ n3_ n4_ n5_ n6_; clear hb hbox hg; have m1 := N1.out; have n1 := N0.out; obtain ⟨z24, z25, z26, z27, f24, f25, f26, f27⟩ := bx4_ B1.out; have p34 : 0 ≤ ((ji32) : Int) := of_decide_eq_true hA_; have q34 : (ji32) < (a0.size : Int) := of_decide_eq_true hA_; have h1 := bt_at a0 (ji32); replace p34 := eq_true p34; replace q34 := eq_true q34; obtain ⟨z28, z29, z30, z31, f28, f29, f30, f31⟩ := bx4_ B0.out))
          refine bodyPost_ret (results_cell_row rfl _ _ g0 59 #[.int .i64 2, .int .i64 t1, .slice none 0 0, .int .i64 ji32] (0, 0) _ rfl (bP_ (bP_ (bP_ (bP_ (bF_ (bF_ (bF_ (bF_ (hK_ B0.out) N0.out) N0.out) N0.out) N0.out))))) Tryd.underlying59 rfl (by kernel_rfl)) rfl ?_
          exact ⟨_, by first | rfl | (simp [errW_none, errW_some] <;> rfl) | (simp only [← hji19, ← hji32]; first | rfl | (simp [errW_none, errW_some] <;> rfl)) | (simp [*, errW_none, errW_some] <;> rfl), by first | exact Kd.R_nil _ _ _ _ _ | exact Kd.N_nil _ _ _ _ _ | exact Kd.V_nil _ _ _ _ _ | exact Kd.Q_nil _ _ _ _ _ | exact Kd.S_nil _ _ _ _ _, hC_⟩
        rw [if_pos c35] at H
        have c35b0 : ((bt a0 (ji32)) == 40) = true := beq_iff_eq.mpr c35
        have c35b1 : ((bt a0 (ji32)) != 40) = false := bne_eq_false_iff_eq.mpr c35
        clear c35
        replace H := Option.bind_eq_some_iff.mp H
        obtain ⟨⟨t16, t17, t18, t19⟩, A360, H⟩ := H
        replace H : (some (t16, t17, t18, t19)) = some (r1, r2, r3, r4) := H
        have A36 := Aside0.mk A360
        clear A360
        simp only [Option.some.injEq, Prod.mk.injEq] at H
        obtain ⟨rfl, rfl, rfl, rfl⟩ := H
        go_wp2_with (first | ((with_reducible refine gate_dst (N := 7) rfl ?_); refine boxE_ 7 #[.int .i64 0, .int .i64 0, .slice none 0 0, .int .i64 0] 59 ?_; intro g1 hg w37 hbox hb; have n0_ := Aside0.mk (bB_ B0.out hb); have n1_ := Aside0.mk (below_step hC_ hb); have n2_ := Aside0.mk (hbox); have n3_ := Aside0.mk ((gE_ hg : w.heap.size ≤ g1)); have n4_ := Aside0.mk ((gE_ hg : w.heap.size ≤ g1)); have n5_ := Aside0.mk ((bL_ B0.out hg : g0 ≠ g1)); have n6_ := Aside0.mk ((bG_ B0.out hg : g1 ≠ g0)); clear B0 HB; have B0 := n0_; have HB := n1_; have B1 := n2_; have W1 := n3_; have E1 := n4_; have N0 := n5_; have N1 := n6_; clear n0_ n1_ n2_ n3_ n4_ n5_ n6_; clear hb hbox hg; have m2 := N1.out; have n2 := N0.out; obtain ⟨z32, z33, z34, z35, f32, f33, f34, f35⟩ := bx4_ B1.out) | ((with_reducible refine gate_store (t := 59) (p := 7) rfl ?_); refine store_event (t := 59) (p := 7) (v := ?vo_w40) (w1 := ((((w37.setCell ⟨g1, 0, none⟩ (.int .i64 2)).setCell ⟨g1, 1, none⟩ (.int .i64 t1)).setCell ⟨g1, 2, none⟩ (.slice none 0 0)).setCell ⟨g1, 3, none⟩ (.int .i64 ji32))) ?hg ?ho ?hn ?hr ?_; (case ho => rfl); (case hg => rfl); (case hn => rfl); (case hr => first | (go_simp; done) | (go_simp; rfl)); intro w40 hw; have n0_ : Aside0 (w40.heap[g0]? = some (.cells #[.int .i64 0, .int .i64 0, .slice none 0 0, .int .i64 0] 59 (0, 0))) := ⟨(by rw [hw]; exact (bF_ (bF_ (bF_ (bF_ (hK_ B0.out) N0.out) N0.out) N0.out) N0.out))⟩; have n1_ : Aside0 (w40.heap[g1]? = some (.cells #[.int .i64 2, .int .i64 t1, .slice none 0 0, .int .i64 ji32] 59 (0, 0))) := ⟨(by rw [hw]; exact (bP_ (bP_ (bP_ (bP_ (hK_ B1.out))))))⟩; have n2_ : Aside0 (Below w.heap.size w w40) := ⟨(by rw [hw]; exact hC_)⟩; clear hw B0 B1 HB; have B0 := n0_; have B1 := n1_; have HB := n2_; clear n0_ n1_ n2_; obtain ⟨z36, z37, z38, z39, f36, f37, f38, f39⟩ := bx4_ B1.out; have p34 : 0 ≤ ((ji32) : Int) := of_decide_eq_true hA_; have q34 : (ji32) < (a0.size : Int) := of_decide_eq_true hA_; have h1 := bt_at a0 (ji32); replace p34 := eq_true p34; replace q34 := eq_true q34) | ((with_reducible refine gate_callee (f := 33) rfl ?_); refine goesL_ (some 70) rfl rfl Tryd.func33 (by kernel_rfl) rfl #[.string a0, .agg #[.int .i64 2, .int .i64 t1, .slice none 0 0, .int .i64 ji32], .int .i64 (wrap64 ((ji32) + 1))] rfl (by (try simp only [List.map_toArray, List.map_cons, List.map_nil]); first | done | (simp only [hji32]; rfl) | rfl | (simp only [List.length_drop, List.length_take]; rfl)) ?_; (refine (ih_sleuthref1_parts kj22 (by have := HJ22.out; omega) a0 2 t1 (fun k_ => some k_ = (.slice none 0 0 : Value).ownBlock) (.slice none 0 0) ([] : List ByteArray) ji32 (wrap64 ((ji32) + 1)) t16 t17 t18 t19 w _ ?s1 ?s2 A36.out).mono ?_); (case s1 => repeat (first | (with_reducible first | exact HB.out | apply below_alloc | apply pw_below_drewN | apply below_drew1 | refine below_set ?_ E0.out | refine below_set ?_ E1.out) | exact HB.out)); (case s2 => exact Kd.R_nil _ _ _ _ _); rintro e w42 ⟨v3, rfl, ho0, hb, hkp⟩; refine ⟨_, rfl, ?_⟩; have n0_ := Aside0.mk (blk_kept (hK_ B0.out) hkp (fun hs_ => (fun e_ => by simp [Value.ownBlock] at e_) hs_)); have n1_ := Aside0.mk (blk_kept (hK_ B1.out) hkp (fun hs_ => (fun e_ => by simp [Value.ownBlock] at e_) hs_)); have n2_ := Aside0.mk (Kd.R_mono (ok' := fun k_ => True) ho0 (fun k_ hk_ => trivial)); have n3_ := Aside0.mk (hb); clear B0 B1 HB; have B0 := n0_; have B1 := n1_; have P2 := n2_; have HB := n3_; clear n0_ n1_ n2_ n3_; (try clear hb); (try clear hkp); (try clear ho0); obtain ⟨z40, z41, z42, z43, f40, f41, f42, f43⟩ := bx4_ B0.out; obtain ⟨a4, o2, e2⟩ := Kd.R_slice P2.out; subst e2))
        refine bodyPost_ret (results_cell_row rfl _ _ g0 59 #[.int .i64 t16, .int .i64 t17, .slice a4 t18.length o2, .int .i64 t19] (0, 0) _ rfl (bP_ (bP_ (bP_ (bP_ (hK_ B0.out))))) Tryd.underlying59 rfl (by kernel_rfl)) rfl ?_
        exact ⟨_, by first | rfl | (simp [errW_none, errW_some] <;> rfl) | (simp only [← hji19, ← hji32]; first | rfl | (simp [errW_none, errW_some] <;> rfl)) | (simp [*, errW_none, errW_some] <;> rfl), hR_ (Kd.R_mono (rF_ (rF_ (rF_ (rF_ (Kd.R_types P2.out B0.out (by decide)))))) (fun _ hk => trivial)), hC_⟩
  rw [if_neg c18] at H
  have c18b0 : ((bt a0 a1) == 64) = false := beq_eq_false_iff_ne.mpr c18
  have c18b1 : ((bt a0 a1) != 64) = true := bne_iff_ne.mpr c18
  by_cases c53 : (bt a0 a1) = 45
  case neg =>
    rw [if_neg c53] at H
    have c53b0 : ((bt a0 a1) == 45) = false := beq_eq_false_iff_ne.mpr c53
    have c53b1 : ((bt a0 a1) != 45) = true := bne_iff_ne.mpr c53
    have c79b0 := eq_true (of_decide_eq_true hA_ : 0 ≤ a1)
    replace H := ifI_ H; obtain ⟨c80, H⟩ := H
    have c80b0 := eq_true c80
    have c80b1 : decide (a1 ≤ (a0.size : Int)) = true := decide_eq_true c80
    clear c80
    replace H := Option.bind_eq_some_iff.mp H
    obtain ⟨⟨t5, t4⟩, A810, H⟩ := H
    replace H : (if t4 = 0 then ((sleuthref1_bad.f).bind fun bt264 => (some (bt264.1, bt264.2.1, bt264.2.2.1, bt264.2.2.2))) else ((sleuthref1_NumMay.f t5).bind fun t7 => (if t7 = true then (some (1, t5, ([] : List ByteArray), wrap64 (a1 + t4))) else ((sleuthref1_bad.f).bind fun bt271 => (some (bt271.1, bt271.2.1, bt271.2.2.1, bt271.2.2.2)))))) = some (r1, r2, r3, r4) := H
    have A81 := Aside0.mk A810
    clear A810
    by_cases c82 : t4 = 0
    case pos =>
      rw [if_pos c82] at H
      have c82b0 : (t4 == 0) = true := beq_iff_eq.mpr c82
      have c82b1 : (t4 != 0) = false := bne_eq_false_iff_eq.mpr c82
      clear c82
      replace H := Option.bind_eq_some_iff.mp H
      obtain ⟨⟨t20, t21, t22, t23⟩, A830, H⟩ := H
      replace H : (some (t20, t21, t22, t23)) = some (r1, r2, r3, r4) := H
      have A83 := Aside0.mk A830
      clear A830
      simp only [Option.some.injEq, Prod.mk.injEq] at H
      obtain ⟨rfl, rfl, rfl, rfl⟩ := H
      go_enter Tryd.func29, Tryd.ntmps29
      go_wp2_with (first | ((with_reducible refine gate_dst (N := 4) rfl ?_); refine boxE_ 4 #[.int .i64 0, .int .i64 0, .slice none 0 0, .int .i64 0] 59 ?_; intro g0 hg w7 hbox hb; have n0_ := Aside0.mk (below_step hB_ hb); have n1_ := Aside0.mk (hbox); have n2_ := Aside0.mk ((gE_ hg : w.heap.size ≤ g0)); have n3_ := Aside0.mk ((gE_ hg : w.heap.size ≤ g0)); clear HB; have HB := n0_; have B0 := n1_; have W0 := n2_; have E0 := n3_; clear n0_ n1_ n2_ n3_; clear hb hbox hg; have p11 : 0 ≤ (a1 : Int) := of_decide_eq_true hA_; have q11 : a1 < (a0.size : Int) := of_decide_eq_true hA_; have h0 := bt_at a0 a1; replace p11 := eq_true p11; replace q11 := eq_true q11) | ((with_reducible refine gate_callee (f := 32) rfl ?_); refine goesL_ _ rfl rfl Tryd.func32 (by kernel_rfl) rfl #[.string (a0.extract (a1 : Int).toNat a0.size)] rfl hL_ ?_; (with_reducible refine (sleuthref1_digits.calls k (a0.extract (a1 : Int).toNat a0.size) t5 t4 _ A81.out).mono ?_); rintro e w' ⟨rfl, ⟨nd, rfl⟩⟩; refine ⟨_, rfl, ?_⟩; (try (rw [drewN_self w7]; generalize hq_ : World.drewN w7 _ = w7; have n0_ : Aside0 (w7.heap[g0]? = some (.cells #[.int .i64 0, .int .i64 0, .slice none 0 0, .int .i64 0] 59 (0, 0))) := ⟨by rw [← hq_]; exact (hK_ B0.out)⟩; have n1_ : Aside0 (Below w.heap.size w w7) := ⟨by rw [← hq_]; exact hC_⟩; clear B0 HB hq_; have B0 := n0_; have HB := n1_; clear n0_ n1_; (try have hcu0_0 := bc0_ B0.out); (try have hfu0_0 := blk_frozen B0.out 0); (try have hcu0_1 := bc1_ B0.out); (try have hfu0_1 := blk_frozen B0.out 1); (try have hcu0_2 := bc2_ B0.out); (try have hfu0_2 := blk_frozen B0.out 2); (try have hcu0_3 := bc3_ B0.out); (try have hfu0_3 := blk_frozen B0.out 3)))) | ((with_reducible refine gate_callee (f := 31) rfl ?_); refine goesL_ (some 116) rfl rfl Tryd.func31 (by kernel_rfl) rfl #[] rfl hL_ ?_; (with_reducible refine (sleuthref1_bad.calls  t20 t21 t22 t23 _ A83.out).mono ?_); rintro e w85 ⟨v4, rfl, ho0, hb⟩; refine ⟨_, rfl, ?_⟩; have n0_ := Aside0.mk (Kd.R_lower ho0 (below_size hC_)); have n1_ := Aside0.mk (bB_ B0.out hb); have n2_ := Aside0.mk (below_step hC_ hb); clear B0 HB; have P3 := n0_; have B0 := n1_; have HB := n2_; clear n0_ n1_ n2_; (try clear hb); (try clear hb2); (try clear hk); (try clear hi); (try clear ho0); obtain ⟨z44, z45, z46, z47, f44, f45, f46, f47⟩ := bx4_ B0.out; obtain ⟨a5, o3, e3⟩ := Kd.R_slice P3.out; subst e3))
      refine bodyPost_ret (results_cell_row rfl _ _ g0 59 #[.int .i64 t20, .int .i64 t21, .slice a5 t22.length o3, .int .i64 t23] (0, 0) _ rfl (bP_ (bP_ (bP_ (bP_ (hK_ B0.out))))) Tryd.underlying59 rfl (by kernel_rfl)) rfl ?_
      exact ⟨_, hV_, hR_ (Kd.R_mono (rF_ (rF_ (rF_ (rF_ (Kd.R_types P3.out B0.out (by decide)))))) (fun _ hk => trivial)), hC_⟩
    rw [if_neg c82] at H
    have c82b0 : (t4 == 0) = false := beq_eq_false_iff_ne.mpr c82
    have c82b1 : (t4 != 0) = true := bne_iff_ne.mpr c82
    replace H := Option.bind_eq_some_iff.mp H
    obtain ⟨t7, A880, H⟩ := H
    replace H : (if t7 = true then (some (1, t5, ([] : List ByteArray), wrap64 (a1 + t4))) else ((sleuthref1_bad.f).bind fun bt271 => (some (bt271.1, bt271.2.1, bt271.2.2.1, bt271.2.2.2)))) = some (r1, r2, r3, r4) := H
    have A88 := Aside0.mk A880
    clear A880
    by_cases c89 : t7 = true
    case pos =>
      subst c89
      have H1 : (some (1, t5, ([] : List ByteArray), wrap64 (a1 + t4))) = some (r1, r2, r3, r4) := by rw [if_pos rfl] at H; exact H
      clear H
      have H := H1
      clear H1
      simp only [Option.some.injEq, Prod.mk.injEq] at H
      obtain ⟨rfl, rfl, rfl, rfl⟩ := H
      go_enter Tryd.func29, Tryd.ntmps29
      go_wp2_with (first | ((with_reducible refine gate_dst (N := 4) rfl ?_); refine boxE_ 4 #[.int .i64 0, .int .i64 0, .slice none 0 0, .int .i64 0] 59 ?_; intro g0 hg w0 hbox hb; have n0_ := Aside0.mk (below_step hB_ hb); have n1_ := Aside0.mk (hbox); have n2_ := Aside0.mk ((gE_ hg : w.heap.size ≤ g0)); have n3_ := Aside0.mk ((gE_ hg : w.heap.size ≤ g0)); clear HB; have HB := n0_; have B0 := n1_; have W0 := n2_; have E0 := n3_; clear n0_ n1_ n2_ n3_; clear hb hbox hg; have p11 : 0 ≤ (a1 : Int) := of_decide_eq_true hA_; have q11 : a1 < (a0.size : Int) := of_decide_eq_true hA_; have h0 := bt_at a0 a1; replace p11 := eq_true p11; replace q11 := eq_true q11) | ((with_reducible refine gate_callee (f := 32) rfl ?_); refine goesL_ _ rfl rfl Tryd.func32 (by kernel_rfl) rfl #[.string (a0.extract (a1 : Int).toNat a0.size)] rfl hL_ ?_; (with_reducible refine (sleuthref1_digits.calls k (a0.extract (a1 : Int).toNat a0.size) t5 t4 _ A81.out).mono ?_); rintro e w' ⟨rfl, ⟨nd, rfl⟩⟩; refine ⟨_, rfl, ?_⟩; (try (rw [drewN_self w0]; generalize hq_ : World.drewN w0 _ = w0; have n0_ : Aside0 (w0.heap[g0]? = some (.cells #[.int .i64 0, .int .i64 0, .slice none 0 0, .int .i64 0] 59 (0, 0))) := ⟨by rw [← hq_]; exact (hK_ B0.out)⟩; have n1_ : Aside0 (Below w.heap.size w w0) := ⟨by rw [← hq_]; exact hC_⟩; clear B0 HB hq_; have B0 := n0_; have HB := n1_; clear n0_ n1_; (try have hcu0_0 := bc0_ B0.out); (try have hfu0_0 := blk_frozen B0.out 0); (try have hcu0_1 := bc1_ B0.out); (try have hfu0_1 := blk_frozen B0.out 1); (try have hcu0_2 := bc2_ B0.out); (try have hfu0_2 := blk_frozen B0.out 2); (try have hcu0_3 := bc3_ B0.out); (try have hfu0_3 := blk_frozen B0.out 3)))) | (go_at_call 34; (with_reducible refine (sleuthref1_NumMay.calls t5 true _ A88.out).mono ?_); rintro e w' ⟨rfl, ⟨nd, rfl⟩⟩; (try (rw [drewN_self w0]; generalize hq_ : World.drewN w0 _ = w0; have n0_ : Aside0 (w0.heap[g0]? = some (.cells #[.int .i64 0, .int .i64 0, .slice none 0 0, .int .i64 0] 59 (0, 0))) := ⟨by rw [← hq_]; exact (hK_ B0.out)⟩; have n1_ : Aside0 (Below w.heap.size w w0) := ⟨by rw [← hq_]; exact hC_⟩; clear B0 HB hq_; have B0 := n0_; have HB := n1_; clear n0_ n1_; (try have hcu0_0 := bc0_ B0.out); (try have hfu0_0 := blk_frozen B0.out 0); (try have hcu0_1 := bc1_ B0.out); (try have hfu0_1 := blk_frozen B0.out 1); (try have hcu0_2 := bc2_ B0.out); (try have hfu0_2 := blk_frozen B0.out 2); (try have hcu0_3 := bc3_ B0.out); (try have hfu0_3 := blk_frozen B0.out 3))); obtain ⟨z48, z49, z50, z51, f48, f49, f50, f51⟩ := bx4_ B0.out))
      refine bodyPost_ret (results_cell_row rfl _ _ g0 59 #[.int .i64 1, .int .i64 t5, .slice none 0 0, .int .i64 (wrap64 (a1 + t4))] (0, 0) _ rfl (bP_ (bP_ (bP_ (bP_ (hK_ B0.out))))) Tryd.underlying59 rfl (by kernel_rfl)) rfl ?_
      exact ⟨_, hV_, by first | exact Kd.R_nil _ _ _ _ _ | exact Kd.N_nil _ _ _ _ _ | exact Kd.V_nil _ _ _ _ _ | exact Kd.Q_nil _ _ _ _ _ | exact Kd.S_nil _ _ _ _ _, hC_⟩
    replace c89 := Bool.eq_false_iff.mpr c89
    subst c89
    have H1 : ((sleuthref1_bad.f).bind fun bt271 => (some (bt271.1, bt271.2.1, bt271.2.2.1, bt271.2.2.2))) = some (r1, r2, r3, r4) := by rw [if_neg (show ¬ (false = true) by decide)] at H; exact H
    clear H
    have H := H1
    clear H1
    replace H := Option.bind_eq_some_iff.mp H
    obtain ⟨⟨t24, t25, t26, t27⟩, A920, H⟩ := H
    replace H : (some (t24, t25, t26, t27)) = some (r1, r2, r3, r4) := H
    have A92 := Aside0.mk A920
    clear A920
    simp only [Option.some.injEq, Prod.mk.injEq] at H
    obtain ⟨rfl, rfl, rfl, rfl⟩ := H
    go_enter Tryd.func29, Tryd.ntmps29
    go_wp2_with (first | ((with_reducible refine gate_dst (N := 4) rfl ?_); refine boxE_ 4 #[.int .i64 0, .int .i64 0, .slice none 0 0, .int .i64 0] 59 ?_; intro g0 hg w2 hbox hb; have n0_ := Aside0.mk (below_step hB_ hb); have n1_ := Aside0.mk (hbox); have n2_ := Aside0.mk ((gE_ hg : w.heap.size ≤ g0)); have n3_ := Aside0.mk ((gE_ hg : w.heap.size ≤ g0)); clear HB; have HB := n0_; have B0 := n1_; have W0 := n2_; have E0 := n3_; clear n0_ n1_ n2_ n3_; clear hb hbox hg; have p11 : 0 ≤ (a1 : Int) := of_decide_eq_true hA_; have q11 : a1 < (a0.size : Int) := of_decide_eq_true hA_; have h0 := bt_at a0 a1; replace p11 := eq_true p11; replace q11 := eq_true q11) | ((with_reducible refine gate_callee (f := 32) rfl ?_); refine goesL_ _ rfl rfl Tryd.func32 (by kernel_rfl) rfl #[.string (a0.extract (a1 : Int).toNat a0.size)] rfl hL_ ?_; (with_reducible refine (sleuthref1_digits.calls k (a0.extract (a1 : Int).toNat a0.size) t5 t4 _ A81.out).mono ?_); rintro e w' ⟨rfl, ⟨nd, rfl⟩⟩; refine ⟨_, rfl, ?_⟩; (try (rw [drewN_self w2]; generalize hq_ : World.drewN w2 _ = w2; have n0_ : Aside0 (w2.heap[g0]? = some (.cells #[.int .i64 0, .int .i64 0, .slice none 0 0, .int .i64 0] 59 (0, 0))) := ⟨by rw [← hq_]; exact (hK_ B0.out)⟩; have n1_ : Aside0 (Below w.heap.size w w2) := ⟨by rw [← hq_]; exact hC_⟩; clear B0 HB hq_; have B0 := n0_; have HB := n1_; clear n0_ n1_; (try have hcu0_0 := bc0_ B0.out); (try have hfu0_0 := blk_frozen B0.out 0); (try have hcu0_1 := bc1_ B0.out); (try have hfu0_1 := blk_frozen B0.out 1); (try have hcu0_2 := bc2_ B0.out); (try have hfu0_2 := blk_frozen B0.out 2); (try have hcu0_3 := bc3_ B0.out); (try have hfu0_3 := blk_frozen B0.out 3)))) | (go_at_call 34; (with_reducible refine (sleuthref1_NumMay.calls t5 false _ A88.out).mono ?_); rintro e w' ⟨rfl, ⟨nd, rfl⟩⟩; (try (rw [drewN_self w2]; generalize hq_ : World.drewN w2 _ = w2; have n0_ : Aside0 (w2.heap[g0]? = some (.cells #[.int .i64 0, .int .i64 0, .slice none 0 0, .int .i64 0] 59 (0, 0))) := ⟨by rw [← hq_]; exact (hK_ B0.out)⟩; have n1_ : Aside0 (Below w.heap.size w w2) := ⟨by rw [← hq_]; exact hC_⟩; clear B0 HB hq_; have B0 := n0_; have HB := n1_; clear n0_ n1_; (try have hcu0_0 := bc0_ B0.out); (try have hfu0_0 := blk_frozen B0.out 0); (try have hcu0_1 := bc1_ B0.out); (try have hfu0_1 := blk_frozen B0.out 1); (try have hcu0_2 := bc2_ B0.out); (try have hfu0_2 := blk_frozen B0.out 2); (try have hcu0_3 := bc3_ B0.out); (try have hfu0_3 := blk_frozen B0.out 3)))) | ((with_reducible refine gate_callee (f := 31) rfl ?_); refine goesL_ (some 116) rfl rfl Tryd.func31 (by kernel_rfl) rfl #[] rfl hL_ ?_; (with_reducible refine (sleuthref1_bad.calls  t24 t25 t26 t27 _ A92.out).mono ?_); rintro e w94 ⟨v5, rfl, ho0, hb⟩; refine ⟨_, rfl, ?_⟩; have n0_ := Aside0.mk (Kd.R_lower ho0 (below_size hC_)); have n1_ := Aside0.mk (bB_ B0.out hb); have n2_ := Aside0.mk (below_step hC_ hb); clear B0 HB; have P4 := n0_; have B0 := n1_; have HB := n2_; clear n0_ n1_ n2_; (try clear hb); (try clear hb2); (try clear hk); (try clear hi); (try clear ho0); obtain ⟨z52, z53, z54, z55, f52, f53, f54, f55⟩ := bx4_ B0.out; obtain ⟨a6, o4, e4⟩ := Kd.R_slice P4.out; subst e4))
    refine bodyPost_ret (results_cell_row rfl _ _ g0 59 #[.int .i64 t24, .int .i64 t25, .slice a6 t26.length o4, .int .i64 t27] (0, 0) _ rfl (bP_ (bP_ (bP_ (bP_ (hK_ B0.out))))) Tryd.underlying59 rfl (by kernel_rfl)) rfl ?_
    exact ⟨_, hV_, hR_ (Kd.R_mono (rF_ (rF_ (rF_ (rF_ (Kd.R_types P4.out B0.out (by decide)))))) (fun _ hk => trivial)), hC_⟩
  rw [if_pos c53] at H
  have c53b0 : ((bt a0 a1) == 45) = true := beq_iff_eq.mpr c53
  have c53b1 : ((bt a0 a1) != 45) = false := bne_eq_false_iff_eq.mpr c53
  clear c53
  obtain ⟨ji54, hji54⟩ : ∃ j_ : Int, (wrap64 (a1 + 1)) = j_ := ⟨_, rfl⟩
  replace H : (if 0 ≤ (ji54) then (if (ji54) ≤ (a0.size : Int) then ((sleuthref1_digits.f k (a0.extract ((ji54) : Int).toNat a0.size)).bind fun bt241 => (if bt241.2 = 0 then ((sleuthref1_bad.f).bind fun bt243 => (some (bt243.1, bt243.2.1, bt243.2.2.1, bt243.2.2.2))) else (if bt241.1 = 0 then ((sleuthref1_bad.f).bind fun bt249 => (some (bt249.1, bt249.2.1, bt249.2.2.1, bt249.2.2.2))) else ((sleuthref1_NumMay.f (wrap64 (-bt241.1))).bind fun t6 => (if t6 = true then (some (1, wrap64 (-bt241.1), ([] : List ByteArray), wrap64 ((ji54) + bt241.2))) else ((sleuthref1_bad.f).bind fun bt256 => (some (bt256.1, bt256.2.1, bt256.2.2.1, bt256.2.2.2)))))))) else (none)) else (none)) = some (r1, r2, r3, r4) := by first | (rw [hji54] at H; exact H) | (simp only [hji54] at H ⊢; exact H)
  have hji54w : (IntKind.i64.wrap (a1 + 1)) = ji54 := (i64_w _).trans hji54
  replace H := ifI_ H; obtain ⟨c55, H⟩ := H
  have c55b0 := eq_true c55
  have c55b1 : decide (0 ≤ (ji54)) = true := decide_eq_true c55
  clear c55
  replace H := ifI_ H; obtain ⟨c56, H⟩ := H
  have c56b0 := eq_true c56
  have c56b1 : decide ((ji54) ≤ (a0.size : Int)) = true := decide_eq_true c56
  clear c56
  replace H := Option.bind_eq_some_iff.mp H
  obtain ⟨⟨t2, t3⟩, A570, H⟩ := H
  replace H : (if t3 = 0 then ((sleuthref1_bad.f).bind fun bt243 => (some (bt243.1, bt243.2.1, bt243.2.2.1, bt243.2.2.2))) else (if t2 = 0 then ((sleuthref1_bad.f).bind fun bt249 => (some (bt249.1, bt249.2.1, bt249.2.2.1, bt249.2.2.2))) else ((sleuthref1_NumMay.f (wrap64 (-t2))).bind fun t6 => (if t6 = true then (some (1, wrap64 (-t2), ([] : List ByteArray), wrap64 ((ji54) + t3))) else ((sleuthref1_bad.f).bind fun bt256 => (some (bt256.1, bt256.2.1, bt256.2.2.1, bt256.2.2.2))))))) = some (r1, r2, r3, r4) := H
  have A57 := Aside0.mk A570
  clear A570
  by_cases c58 : t3 = 0
  case pos =>
    rw [if_pos c58] at H
    have c58b0 : (t3 == 0) = true := beq_iff_eq.mpr c58
    have c58b1 : (t3 != 0) = false := bne_eq_false_iff_eq.mpr c58
    clear c58
    replace H := Option.bind_eq_some_iff.mp H
    obtain ⟨⟨t28, t29, t30, t31⟩, A590, H⟩ := H
    replace H : (some (t28, t29, t30, t31)) = some (r1, r2, r3, r4) := H
    have A59 := Aside0.mk A590
    clear A590
    simp only [Option.some.injEq, Prod.mk.injEq] at H
    obtain ⟨rfl, rfl, rfl, rfl⟩ := H
    go_enter Tryd.func29, Tryd.ntmps29
    go_wp2_with (first | ((with_reducible refine gate_dst (N := 4) rfl ?_); refine boxE_ 4 #[.int .i64 0, .int .i64 0, .slice none 0 0, .int .i64 0] 59 ?_; intro g0 hg w8 hbox hb; have n0_ := Aside0.mk (below_step hB_ hb); have n1_ := Aside0.mk (hbox); have n2_ := Aside0.mk ((gE_ hg : w.heap.size ≤ g0)); have n3_ := Aside0.mk ((gE_ hg : w.heap.size ≤ g0)); clear HB; have HB := n0_; have B0 := n1_; have W0 := n2_; have E0 := n3_; clear n0_ n1_ n2_ n3_; clear hb hbox hg; have p11 : 0 ≤ (a1 : Int) := of_decide_eq_true hA_; have q11 : a1 < (a0.size : Int) := of_decide_eq_true hA_; have h0 := bt_at a0 a1; replace p11 := eq_true p11; replace q11 := eq_true q11) | ((with_reducible refine gate_callee (f := 32) rfl ?_); refine goesL_ _ rfl rfl Tryd.func32 (by kernel_rfl) rfl #[.string (a0.extract ((ji54) : Int).toNat a0.size)] rfl (by (try simp only [List.map_toArray, List.map_cons, List.map_nil]); first | done | (simp only [hji54]; rfl) | rfl | (simp only [List.length_drop, List.length_take]; rfl)) ?_; (with_reducible refine (sleuthref1_digits.calls k (a0.extract ((ji54) : Int).toNat a0.size) t2 t3 _ A57.out).mono ?_); rintro e w' ⟨rfl, ⟨nd, rfl⟩⟩; refine ⟨_, rfl, ?_⟩; (try (rw [drewN_self w8]; generalize hq_ : World.drewN w8 _ = w8; have n0_ : Aside0 (w8.heap[g0]? = some (.cells #[.int .i64 0, .int .i64 0, .slice none 0 0, .int .i64 0] 59 (0, 0))) := ⟨by rw [← hq_]; exact (hK_ B0.out)⟩; have n1_ : Aside0 (Below w.heap.size w w8) := ⟨by rw [← hq_]; exact hC_⟩; clear B0 HB hq_; have B0 := n0_; have HB := n1_; clear n0_ n1_; (try have hcu0_0 := bc0_ B0.out); (try have hfu0_0 := blk_frozen B0.out 0); (try have hcu0_1 := bc1_ B0.out); (try have hfu0_1 := blk_frozen B0.out 1); (try have hcu0_2 := bc2_ B0.out); (try have hfu0_2 := blk_frozen B0.out 2); (try have hcu0_3 := bc3_ B0.out); (try have hfu0_3 := blk_frozen B0.out 3)))) | ((with_reducible refine gate_callee (f := 31) rfl ?_); refine goesL_ (some 94) rfl rfl Tryd.func31 (by kernel_rfl) rfl #[] rfl hL_ ?_; (with_reducible refine (sleuthref1_bad.calls  t28 t29 t30 t31 _ A59.out).mono ?_); rintro e w61 ⟨v6, rfl, ho0, hb⟩; refine ⟨_, rfl, ?_⟩; have n0_ := Aside0.mk (Kd.R_lower ho0 (below_size hC_)); have n1_ := Aside0.mk (bB_ B0.out hb); have n2_ := Aside0.mk (below_step hC_ hb); clear B0 HB; have P5 := n0_; have B0 := n1_; have HB := n2_; clear n0_ n1_ n2_; (try clear hb); (try clear hb2); (try clear hk); (try clear hi); (try clear ho0); obtain ⟨z56, z57, z58, z59, f56, f57, f58, f59⟩ := bx4_ B0.out; obtain ⟨a7, o5, e5⟩ := Kd.R_slice P5.out; subst e5))
    refine bodyPost_ret (results_cell_row rfl _ _ g0 59 #[.int .i64 t28, .int .i64 t29, .slice a7 t30.length o5, .int .i64 t31] (0, 0) _ rfl (bP_ (bP_ (bP_ (bP_ (hK_ B0.out))))) Tryd.underlying59 rfl (by kernel_rfl)) rfl ?_
    exact ⟨_, by first | rfl | (simp [errW_none, errW_some] <;> rfl) | (simp only [← hji54]; first | rfl | (simp [errW_none, errW_some] <;> rfl)) | (simp [*, errW_none, errW_some] <;> rfl), hR_ (Kd.R_mono (rF_ (rF_ (rF_ (rF_ (Kd.R_types P5.out B0.out (by decide)))))) (fun _ hk => trivial)), hC_⟩
  rw [if_neg c58] at H
  have c58b0 : (t3 == 0) = false := beq_eq_false_iff_ne.mpr c58
  have c58b1 : (t3 != 0) = true := bne_iff_ne.mpr c58
  by_cases c64 : t2 = 0
  case pos =>
    rw [if_pos c64] at H
    have c64b0 : (t2 == 0) = true := beq_iff_eq.mpr c64
    have c64b1 : (t2 != 0) = false := bne_eq_false_iff_eq.mpr c64
    clear c64
    replace H := Option.bind_eq_some_iff.mp H
    obtain ⟨⟨t32, t33, t34, t35⟩, A650, H⟩ := H
    replace H : (some (t32, t33, t34, t35)) = some (r1, r2, r3, r4) := H
    have A65 := Aside0.mk A650
    clear A650
    simp only [Option.some.injEq, Prod.mk.injEq] at H
    obtain ⟨rfl, rfl, rfl, rfl⟩ := H
    go_enter Tryd.func29, Tryd.ntmps29
    go_wp2_with (first | ((with_reducible refine gate_dst (N := 4) rfl ?_); refine boxE_ 4 #[.int .i64 0, .int .i64 0, .slice none 0 0, .int .i64 0] 59 ?_; intro g0 hg w9 hbox hb; have n0_ := Aside0.mk (below_step hB_ hb); have n1_ := Aside0.mk (hbox); have n2_ := Aside0.mk ((gE_ hg : w.heap.size ≤ g0)); have n3_ := Aside0.mk ((gE_ hg : w.heap.size ≤ g0)); clear HB; have HB := n0_; have B0 := n1_; have W0 := n2_; have E0 := n3_; clear n0_ n1_ n2_ n3_; clear hb hbox hg; have p11 : 0 ≤ (a1 : Int) := of_decide_eq_true hA_; have q11 : a1 < (a0.size : Int) := of_decide_eq_true hA_; have h0 := bt_at a0 a1; replace p11 := eq_true p11; replace q11 := eq_true q11) | ((with_reducible refine gate_callee (f := 32) rfl ?_); refine goesL_ _ rfl rfl Tryd.func32 (by kernel_rfl) rfl #[.string (a0.extract ((ji54) : Int).toNat a0.size)] rfl (by (try simp only [List.map_toArray, List.map_cons, List.map_nil]); first | done | (simp only [hji54]; rfl) | rfl | (simp only [List.length_drop, List.length_take]; rfl)) ?_; (with_reducible refine (sleuthref1_digits.calls k (a0.extract ((ji54) : Int).toNat a0.size) t2 t3 _ A57.out).mono ?_); rintro e w' ⟨rfl, ⟨nd, rfl⟩⟩; refine ⟨_, rfl, ?_⟩; (try (rw [drewN_self w9]; generalize hq_ : World.drewN w9 _ = w9; have n0_ : Aside0 (w9.heap[g0]? = some (.cells #[.int .i64 0, .int .i64 0, .slice none 0 0, .int .i64 0] 59 (0, 0))) := ⟨by rw [← hq_]; exact (hK_ B0.out)⟩; have n1_ : Aside0 (Below w.heap.size w w9) := ⟨by rw [← hq_]; exact hC_⟩; clear B0 HB hq_; have B0 := n0_; have HB := n1_; clear n0_ n1_; (try have hcu0_0 := bc0_ B0.out); (try have hfu0_0 := blk_frozen B0.out 0); (try have hcu0_1 := bc1_ B0.out); (try have hfu0_1 := blk_frozen B0.out 1); (try have hcu0_2 := bc2_ B0.out); (try have hfu0_2 := blk_frozen B0.out 2); (try have hcu0_3 := bc3_ B0.out); (try have hfu0_3 := blk_frozen B0.out 3)))) | ((with_reducible refine gate_callee (f := 31) rfl ?_); refine goesL_ (some 94) rfl rfl Tryd.func31 (by kernel_rfl) rfl #[] rfl hL_ ?_; (with_reducible refine (sleuthref1_bad.calls  t32 t33 t34 t35 _ A65.out).mono ?_); rintro e w67 ⟨v7, rfl, ho0, hb⟩; refine ⟨_, rfl, ?_⟩; have n0_ := Aside0.mk (Kd.R_lower ho0 (below_size hC_)); have n1_ := Aside0.mk (bB_ B0.out hb); have n2_ := Aside0.mk (below_step hC_ hb); clear B0 HB; have P6 := n0_; have B0 := n1_; have HB := n2_; clear n0_ n1_ n2_; (try clear hb); (try clear hb2); (try clear hk); (try clear hi); (try clear ho0); obtain ⟨z60, z61, z62, z63, f60, f61, f62, f63⟩ := bx4_ B0.out; obtain ⟨a8, o6, e6⟩ := Kd.R_slice P6.out; subst e6))
    refine bodyPost_ret (results_cell_row rfl _ _ g0 59 #[.int .i64 t32, .int .i64 t33, .slice a8 t34.length o6, .int .i64 t35] (0, 0) _ rfl (bP_ (bP_ (bP_ (bP_ (hK_ B0.out))))) Tryd.underlying59 rfl (by kernel_rfl)) rfl ?_
    exact ⟨_, by first | rfl | (simp [errW_none, errW_some] <;> rfl) | (simp only [← hji54]; first | rfl | (simp [errW_none, errW_some] <;> rfl)) | (simp [*, errW_none, errW_some] <;> rfl), hR_ (Kd.R_mono (rF_ (rF_ (rF_ (rF_ (Kd.R_types P6.out B0.out (by decide)))))) (fun _ hk => trivial)), hC_⟩
  rw [if_neg c64] at H
  have c64b0 : (t2 == 0) = false := beq_eq_false_iff_ne.mpr c64
  have c64b1 : (t2 != 0) = true := bne_iff_ne.mpr c64
  replace H := Option.bind_eq_some_iff.mp H
  obtain ⟨t6, A700, H⟩ := H
  replace H : (if t6 = true then (some (1, wrap64 (-t2), ([] : List ByteArray), wrap64 ((ji54) + t3))) else ((sleuthref1_bad.f).bind fun bt256 => (some (bt256.1, bt256.2.1, bt256.2.2.1, bt256.2.2.2)))) = some (r1, r2, r3, r4) := H
  have A70 := Aside0.mk A700
  clear A700
  by_cases c71 : t6 = true
  case pos =>
    subst c71
    have H1 : (some (1, wrap64 (-t2), ([] : List ByteArray), wrap64 ((ji54) + t3))) = some (r1, r2, r3, r4) := by rw [if_pos rfl] at H; exact H
    clear H
    have H := H1
    clear H1
    simp only [Option.some.injEq, Prod.mk.injEq] at H
    obtain ⟨rfl, rfl, rfl, rfl⟩ := H
    go_enter Tryd.func29, Tryd.ntmps29
    go_wp2_with (first | ((with_reducible refine gate_dst (N := 4) rfl ?_); refine boxE_ 4 #[.int .i64 0, .int .i64 0, .slice none 0 0, .int .i64 0] 59 ?_; intro g0 hg w3 hbox hb; have n0_ := Aside0.mk (below_step hB_ hb); have n1_ := Aside0.mk (hbox); have n2_ := Aside0.mk ((gE_ hg : w.heap.size ≤ g0)); have n3_ := Aside0.mk ((gE_ hg : w.heap.size ≤ g0)); clear HB; have HB := n0_; have B0 := n1_; have W0 := n2_; have E0 := n3_; clear n0_ n1_ n2_ n3_; clear hb hbox hg; have p11 : 0 ≤ (a1 : Int) := of_decide_eq_true hA_; have q11 : a1 < (a0.size : Int) := of_decide_eq_true hA_; have h0 := bt_at a0 a1; replace p11 := eq_true p11; replace q11 := eq_true q11) | ((with_reducible refine gate_callee (f := 32) rfl ?_); refine goesL_ _ rfl rfl Tryd.func32 (by kernel_rfl) rfl #[.string (a0.extract ((ji54) : Int).toNat a0.size)] rfl (by (try simp only [List.map_toArray, List.map_cons, List.map_nil]); first | done | (simp only [hji54]; rfl) | rfl | (simp only [List.length_drop, List.length_take]; rfl)) ?_; (with_reducible refine (sleuthref1_digits.calls k (a0.extract ((ji54) : Int).toNat a0.size) t2 t3 _ A57.out).mono ?_); rintro e w' ⟨rfl, ⟨nd, rfl⟩⟩; refine ⟨_, rfl, ?_⟩; (try (rw [drewN_self w3]; generalize hq_ : World.drewN w3 _ = w3; have n0_ : Aside0 (w3.heap[g0]? = some (.cells #[.int .i64 0, .int .i64 0, .slice none 0 0, .int .i64 0] 59 (0, 0))) := ⟨by rw [← hq_]; exact (hK_ B0.out)⟩; have n1_ : Aside0 (Below w.heap.size w w3) := ⟨by rw [← hq_]; exact hC_⟩; clear B0 HB hq_; have B0 := n0_; have HB := n1_; clear n0_ n1_; (try have hcu0_0 := bc0_ B0.out); (try have hfu0_0 := blk_frozen B0.out 0); (try have hcu0_1 := bc1_ B0.out); (try have hfu0_1 := blk_frozen B0.out 1); (try have hcu0_2 := bc2_ B0.out); (try have hfu0_2 := blk_frozen B0.out 2); (try have hcu0_3 := bc3_ B0.out); (try have hfu0_3 := blk_frozen B0.out 3)))) | (go_at_call 34; (with_reducible refine (sleuthref1_NumMay.calls (wrap64 (-t2)) true _ A70.out).mono ?_); rintro e w' ⟨rfl, ⟨nd, rfl⟩⟩; (try (rw [drewN_self w3]; generalize hq_ : World.drewN w3 _ = w3; have n0_ : Aside0 (w3.heap[g0]? = some (.cells #[.int .i64 0, .int .i64 0, .slice none 0 0, .int .i64 0] 59 (0, 0))) := ⟨by rw [← hq_]; exact (hK_ B0.out)⟩; have n1_ : Aside0 (Below w.heap.size w w3) := ⟨by rw [← hq_]; exact hC_⟩; clear B0 HB hq_; have B0 := n0_; have HB := n1_; clear n0_ n1_; (try have hcu0_0 := bc0_ B0.out); (try have hfu0_0 := blk_frozen B0.out 0); (try have hcu0_1 := bc1_ B0.out); (try have hfu0_1 := blk_frozen B0.out 1); (try have hcu0_2 := bc2_ B0.out); (try have hfu0_2 := blk_frozen B0.out 2); (try have hcu0_3 := bc3_ B0.out); (try have hfu0_3 := blk_frozen B0.out 3))); obtain ⟨z64, z65, z66, z67, f64, f65, f66, f67⟩ := bx4_ B0.out))
    refine bodyPost_ret (results_cell_row rfl _ _ g0 59 #[.int .i64 1, .int .i64 (wrap64 (-t2)), .slice none 0 0, .int .i64 (wrap64 ((ji54) + t3))] (0, 0) _ rfl (bP_ (bP_ (bP_ (bP_ (hK_ B0.out))))) Tryd.underlying59 rfl (by kernel_rfl)) rfl ?_
    exact ⟨_, by first | rfl | (simp [errW_none, errW_some] <;> rfl) | (simp only [← hji54]; first | rfl | (simp [errW_none, errW_some] <;> rfl)) | (simp [*, errW_none, errW_some] <;> rfl), by first | exact Kd.R_nil _ _ _ _ _ | exact Kd.N_nil _ _ _ _ _ | exact Kd.V_nil _ _ _ _ _ | exact Kd.Q_nil _ _ _ _ _ | exact Kd.S_nil _ _ _ _ _, hC_⟩
  replace c71 := Bool.eq_false_iff.mpr c71
  subst c71
  have H1 : ((sleuthref1_bad.f).bind fun bt256 => (some (bt256.1, bt256.2.1, bt256.2.2.1, bt256.2.2.2))) = some (r1, r2, r3, r4) := by rw [if_neg (show ¬ (false = true) by decide)] at H; exact H
  clear H
  have H := H1
  clear H1
  replace H := Option.bind_eq_some_iff.mp H
  obtain ⟨⟨t36, t37, t38, t39⟩, A740, H⟩ := H
  replace H : (some (t36, t37, t38, t39)) = some (r1, r2, r3, r4) := H
  have A74 := Aside0.mk A740
  clear A740
  simp only [Option.some.injEq, Prod.mk.injEq] at H
  obtain ⟨rfl, rfl, rfl, rfl⟩ := H
  go_enter Tryd.func29, Tryd.ntmps29
  go_wp2_with (first | ((with_reducible refine gate_dst (N := 4) rfl ?_); refine boxE_ 4 #[.int .i64 0, .int .i64 0, .slice none 0 0, .int .i64 0] 59 ?_; intro g0 hg w4 hbox hb; have n0_ := Aside0.mk (below_step hB_ hb); have n1_ := Aside0.mk (hbox); have n2_ := Aside0.mk ((gE_ hg : w.heap.size ≤ g0)); have n3_ := Aside0.mk ((gE_ hg : w.heap.size ≤ g0)); clear HB; have HB := n0_; have B0 := n1_; have W0 := n2_; have E0 := n3_; clear n0_ n1_ n2_ n3_; clear hb hbox hg; have p11 : 0 ≤ (a1 : Int) := of_decide_eq_true hA_; have q11 : a1 < (a0.size : Int) := of_decide_eq_true hA_; have h0 := bt_at a0 a1; replace p11 := eq_true p11; replace q11 := eq_true q11) | ((with_reducible refine gate_callee (f := 32) rfl ?_); refine goesL_ _ rfl rfl Tryd.func32 (by kernel_rfl) rfl #[.string (a0.extract ((ji54) : Int).toNat a0.size)] rfl (by (try simp only [List.map_toArray, List.map_cons, List.map_nil]); first | done | (simp only [hji54]; rfl) | rfl | (simp only [List.length_drop, List.length_take]; rfl)) ?_; (with_reducible refine (sleuthref1_digits.calls k (a0.extract ((ji54) : Int).toNat a0.size) t2 t3 _ A57.out).mono ?_); rintro e w' ⟨rfl, ⟨nd, rfl⟩⟩; refine ⟨_, rfl, ?_⟩; (try (rw [drewN_self w4]; generalize hq_ : World.drewN w4 _ = w4; have n0_ : Aside0 (w4.heap[g0]? = some (.cells #[.int .i64 0, .int .i64 0, .slice none 0 0, .int .i64 0] 59 (0, 0))) := ⟨by rw [← hq_]; exact (hK_ B0.out)⟩; have n1_ : Aside0 (Below w.heap.size w w4) := ⟨by rw [← hq_]; exact hC_⟩; clear B0 HB hq_; have B0 := n0_; have HB := n1_; clear n0_ n1_; (try have hcu0_0 := bc0_ B0.out); (try have hfu0_0 := blk_frozen B0.out 0); (try have hcu0_1 := bc1_ B0.out); (try have hfu0_1 := blk_frozen B0.out 1); (try have hcu0_2 := bc2_ B0.out); (try have hfu0_2 := blk_frozen B0.out 2); (try have hcu0_3 := bc3_ B0.out); (try have hfu0_3 := blk_frozen B0.out 3)))) | (go_at_call 34; (with_reducible refine (sleuthref1_NumMay.calls (wrap64 (-t2)) false _ A70.out).mono ?_); rintro e w' ⟨rfl, ⟨nd, rfl⟩⟩; (try (rw [drewN_self w4]; generalize hq_ : World.drewN w4 _ = w4; have n0_ : Aside0 (w4.heap[g0]? = some (.cells #[.int .i64 0, .int .i64 0, .slice none 0 0, .int .i64 0] 59 (0, 0))) := ⟨by rw [← hq_]; exact (hK_ B0.out)⟩; have n1_ : Aside0 (Below w.heap.size w w4) := ⟨by rw [← hq_]; exact hC_⟩; clear B0 HB hq_; have B0 := n0_; have HB := n1_; clear n0_ n1_; (try have hcu0_0 := bc0_ B0.out); (try have hfu0_0 := blk_frozen B0.out 0); (try have hcu0_1 := bc1_ B0.out); (try have hfu0_1 := blk_frozen B0.out 1); (try have hcu0_2 := bc2_ B0.out); (try have hfu0_2 := blk_frozen B0.out 2); (try have hcu0_3 := bc3_ B0.out); (try have hfu0_3 := blk_frozen B0.out 3)))) | ((with_reducible refine gate_callee (f := 31) rfl ?_); refine goesL_ (some 94) rfl rfl Tryd.func31 (by kernel_rfl) rfl #[] rfl hL_ ?_; (with_reducible refine (sleuthref1_bad.calls  t36 t37 t38 t39 _ A74.out).mono ?_); rintro e w76 ⟨v8, rfl, ho0, hb⟩; refine ⟨_, rfl, ?_⟩; have n0_ := Aside0.mk (Kd.R_lower ho0 (below_size hC_)); have n1_ := Aside0.mk (bB_ B0.out hb); have n2_ := Aside0.mk (below_step hC_ hb); clear B0 HB; have P7 := n0_; have B0 := n1_; have HB := n2_; clear n0_ n1_ n2_; (try clear hb); (try clear hb2); (try clear hk); (try clear hi); (try clear ho0); obtain ⟨z68, z69, z70, z71, f68, f69, f70, f71⟩ := bx4_ B0.out; obtain ⟨a9, o7, e7⟩ := Kd.R_slice P7.out; subst e7))
  refine bodyPost_ret (results_cell_row rfl _ _ g0 59 #[.int .i64 t36, .int .i64 t37, .slice a9 t38.length o7, .int .i64 t39] (0, 0) _ rfl (bP_ (bP_ (bP_ (bP_ (hK_ B0.out))))) Tryd.underlying59 rfl (by kernel_rfl)) rfl ?_
  exact ⟨_, by first | rfl | (simp [errW_none, errW_some] <;> rfl) | (simp only [← hji54]; first | rfl | (simp [errW_none, errW_some] <;> rfl)) | (simp [*, errW_none, errW_some] <;> rfl), hR_ (Kd.R_mono (rF_ (rF_ (rF_ (rF_ (Kd.R_types P7.out B0.out (by decide)))))) (fun _ hk => trivial)), hC_⟩
theorem sleuthref1_parts.all (k : Nat) : sleuthref1_parts.Said k ∧ sleuthref1_term.Said k := by
  induction k using Nat.strongRecOn with
  | _ k ih => exact ⟨sleuthref1_parts.step k (fun m hm => (ih m hm).1) (fun m hm => (ih m hm).2), sleuthref1_term.step k (fun m hm => (ih m hm).2) (fun m hm => (ih m hm).1)⟩
theorem sleuthref1_parts.calls (k : Nat) : ∀ (a0 : ByteArray) (a1_0 : Int) (a1_1 : Int) (P1_2_ : Nat → Prop) (u9000_ : Value) (l1_2 : List ByteArray) (a1_3 : Int) (a2 : Int) (r1 : Int) (r2 : Int) (r3 : List ByteArray) (r4 : Int) (w0 w : World) (hB : Below w0.heap.size w0 w) (ho1_2 : Kd.R Kd.string 9 w w0.heap.size P1_2_ u9000_ l1_2) (h : sleuthref1_parts.f k a0 a1_0 a1_1 l1_2 a1_3 a2 = some (r1, r2, r3, r4)),
    Calls Tryd.prog 33 #[.string a0, .agg #[.int .i64 a1_0, .int .i64 a1_1, u9000_, .int .i64 a1_3], .int .i64 a2] w fun e w' => ∃ v2_ : Value, e = .returned (.agg #[.int .i64 r1, .int .i64 r2, v2_, .int .i64 r4]) ∧ Kd.R Kd.string 9 w' w0.heap.size (fun k_ => (P1_2_ k_ ∨ w.heap.size ≤ k_)) v2_ r3 ∧ Below w0.heap.size w0 w' ∧ Kept w w' (fun k_ => P1_2_ k_) := (sleuthref1_parts.all k).1
theorem sleuthref1_term.calls (k : Nat) : ∀ (a0 : ByteArray) (a1 : Int) (r1 : Int) (r2 : Int) (r3 : List ByteArray) (r4 : Int) (w : World) (h : sleuthref1_term.f k a0 a1 = some (r1, r2, r3, r4)),
    Calls Tryd.prog 29 #[.string a0, .int .i64 a1] w fun e w' => ∃ v2_ : Value, e = .returned (.agg #[.int .i64 r1, .int .i64 r2, v2_, .int .i64 r4]) ∧ Kd.R Kd.string 9 w' w.heap.size (fun _ => True) v2_ r3 ∧ Below w.heap.size w w' := (sleuthref1_parts.all k).2

def sleuthref1_Cut.f (k : Nat) (a0 : ByteArray) : Option (Int × Int × List ByteArray × Int) := if (a0.size : Int) > 1024 then (some (0, 0, ([] : List ByteArray), 200)) else ((sleuthref1_term.f k a0 0).bind fun bt277 => (if bt277.2.2.2 = (a0.size : Int) then (some (bt277.1, bt277.2.1, bt277.2.2.1, 0)) else (some (0, 0, ([] : List ByteArray), 200))))
set_option maxHeartbeats 8000000 in
set_option maxRecDepth 100000 in
theorem sleuthref1_Cut.calls (k : Nat) (a0 : ByteArray) (r1 : Int) (r2 : Int) (r3 : List ByteArray) (r4 : Int) (w : World) (h : sleuthref1_Cut.f k a0 = some (r1, r2, r3, r4)) :
    Calls Tryd.prog 26 #[.string a0] w fun e w' => ∃ v2_ : Value, e = .returned (.tuple #[.int .i64 r1, .int .i64 r2, v2_, .int .i64 r4]) ∧ Kd.R Kd.string 9 w' w.heap.size (fun _ => True) v2_ r3 ∧ Below w.heap.size w w' := by
  have hu59 := Tryd.underlying59
  have HB := Aside0.mk (Below.refl w.heap.size w)
  have H : (if (a0.size : Int) > 1024 then (some (0, 0, ([] : List ByteArray), 200)) else ((sleuthref1_term.f k a0 0).bind fun bt277 => (if bt277.2.2.2 = (a0.size : Int) then (some (bt277.1, bt277.2.1, bt277.2.2.1, 0)) else (some (0, 0, ([] : List ByteArray), 200))))) = some (r1, r2, r3, r4) := h
  clear h
  by_cases c2 : (a0.size : Int) > 1024
  case pos =>
    rw [if_pos c2] at H
    have c2b0 : decide (1024 < (a0.size : Int)) = true := decide_eq_true c2
    have c2b1 : decide (1024 < a0.size) = true := decide_eq_true (by omega)
    clear c2
    simp only [Option.some.injEq, Prod.mk.injEq] at H
    obtain ⟨rfl, rfl, rfl, rfl⟩ := H
    go_enter Tryd.func26, Tryd.ntmps26
    go_wp2
    repeat (go_quiet (fail); try go_wp2)
    refine bodyPost_ret (results_list (rs := [.tmp 2, .tmp 3, .tmp 4, .tmp 5]) rfl (by simp) (.tmp (.tmp (.tmp (.tmp .nil))))) rfl ?_
    exact ⟨_, hV_, by first | exact Kd.R_nil _ _ _ _ _ | exact Kd.N_nil _ _ _ _ _ | exact Kd.V_nil _ _ _ _ _ | exact Kd.Q_nil _ _ _ _ _ | exact Kd.S_nil _ _ _ _ _, hC_⟩
  rw [if_neg c2] at H
  have c2b0 : decide (1024 < (a0.size : Int)) = false := decide_eq_false c2
  have c2b1 : decide (1024 < a0.size) = false := decide_eq_false (by omega)
  clear c2
  replace H := Option.bind_eq_some_iff.mp H
  obtain ⟨⟨t1, t2, t3, t0⟩, A30, H⟩ := H
  replace H : (if t0 = (a0.size : Int) then (some (t1, t2, t3, 0)) else (some (0, 0, ([] : List ByteArray), 200))) = some (r1, r2, r3, r4) := H
  have A3 := Aside0.mk A30
  clear A30
  by_cases c4 : t0 = (a0.size : Int)
  case pos =>
    rw [if_pos c4] at H
    have c4b0 : (t0 == (a0.size : Int)) = true := beq_iff_eq.mpr c4
    have c4b1 : (t0 != (a0.size : Int)) = false := bne_eq_false_iff_eq.mpr c4
    clear c4
    simp only [Option.some.injEq, Prod.mk.injEq] at H
    obtain ⟨rfl, rfl, rfl, rfl⟩ := H
    go_enter Tryd.func26, Tryd.ntmps26
    go_wp2_with (first | (go_at_call 29; (with_reducible refine (sleuthref1_term.calls k a0 0 t1 t2 t3 t0 _ A3.out).mono ?_); rintro e w5 ⟨v0, rfl, ho0, hb⟩; have n0_ := Aside0.mk (Kd.R_lower ho0 hS_); have n1_ := Aside0.mk (below_step hB_ hb); clear HB; have P0 := n0_; have HB := n1_; clear n0_ n1_; (try clear hb); (try clear hb2); (try clear hk); (try clear hi); (try clear ho0)) | ((with_reducible refine gate_dst (N := 6) rfl ?_); refine boxE_ 6 #[.int .i64 0, .int .i64 0, .slice none 0 0, .int .i64 0] 59 ?_; intro g0 hg w6 hbox hb; have n0_ := Aside0.mk (Kd.R_below (hR_ P0.out) hb); have n1_ := Aside0.mk (below_step hB_ hb); have n2_ := Aside0.mk (hbox); have n3_ := Aside0.mk ((gE_ hg : w.heap.size ≤ g0)); have n4_ := Aside0.mk ((gE_ hg : w.heap.size ≤ g0)); clear P0 HB; have P0 := n0_; have HB := n1_; have B0 := n2_; have W0 := n3_; have E0 := n4_; clear n0_ n1_ n2_ n3_ n4_; clear hb hbox hg; obtain ⟨z0, z1, z2, z3, f0, f1, f2, f3⟩ := bx4_ B0.out; obtain ⟨a1, o0, e0⟩ := Kd.R_slice P0.out; subst e0))
    repeat (go_quiet (first | (go_at_call 29; (with_reducible refine (sleuthref1_term.calls k a0 0 t1 t2 t3 t0 _ A3.out).mono ?_); rintro e w5 ⟨v0, rfl, ho0, hb⟩; have n0_ := Aside0.mk (Kd.R_lower ho0 hS_); have n1_ := Aside0.mk (below_step hB_ hb); clear HB; have P0 := n0_; have HB := n1_; clear n0_ n1_; (try clear hb); (try clear hb2); (try clear hk); (try clear hi); (try clear ho0)) | ((with_reducible refine gate_dst (N := 6) rfl ?_); refine boxE_ 6 #[.int .i64 0, .int .i64 0, .slice none 0 0, .int .i64 0] 59 ?_; intro g0 hg w6 hbox hb; have n0_ := Aside0.mk (Kd.R_below (hR_ P0.out) hb); have n1_ := Aside0.mk (below_step hB_ hb); have n2_ := Aside0.mk (hbox); have n3_ := Aside0.mk ((gE_ hg : w.heap.size ≤ g0)); have n4_ := Aside0.mk ((gE_ hg : w.heap.size ≤ g0)); clear P0 HB; have P0 := n0_; have HB := n1_; have B0 := n2_; have W0 := n3_; have E0 := n4_; clear n0_ n1_ n2_ n3_ n4_; clear hb hbox hg; obtain ⟨z0, z1, z2, z3, f0, f1, f2, f3⟩ := bx4_ B0.out; obtain ⟨a1, o0, e0⟩ := Kd.R_slice P0.out; subst e0)); try go_wp2_with (first | (go_at_call 29; (with_reducible refine (sleuthref1_term.calls k a0 0 t1 t2 t3 t0 _ A3.out).mono ?_); rintro e w5 ⟨v0, rfl, ho0, hb⟩; have n0_ := Aside0.mk (Kd.R_lower ho0 hS_); have n1_ := Aside0.mk (below_step hB_ hb); clear HB; have P0 := n0_; have HB := n1_; clear n0_ n1_; (try clear hb); (try clear hb2); (try clear hk); (try clear hi); (try clear ho0)) | ((with_reducible refine gate_dst (N := 6) rfl ?_); refine boxE_ 6 #[.int .i64 0, .int .i64 0, .slice none 0 0, .int .i64 0] 59 ?_; intro g0 hg w6 hbox hb; have n0_ := Aside0.mk (Kd.R_below (hR_ P0.out) hb); have n1_ := Aside0.mk (below_step hB_ hb); have n2_ := Aside0.mk (hbox); have n3_ := Aside0.mk ((gE_ hg : w.heap.size ≤ g0)); have n4_ := Aside0.mk ((gE_ hg : w.heap.size ≤ g0)); clear P0 HB; have P0 := n0_; have HB := n1_; have B0 := n2_; have W0 := n3_; have E0 := n4_; clear n0_ n1_ n2_ n3_ n4_; clear hb hbox hg; obtain ⟨z0, z1, z2, z3, f0, f1, f2, f3⟩ := bx4_ B0.out; obtain ⟨a1, o0, e0⟩ := Kd.R_slice P0.out; subst e0)))
    refine bodyPost_ret (results_list (rs := [.tmp 2, .tmp 3, .tmp 4, .tmp 5]) rfl (by simp) (.tmp (.tmp (.tmp (.tmp .nil))))) rfl ?_
    exact ⟨_, hV_, hR_ (Kd.R_mono (rF_ (rF_ (rF_ (rF_ (Kd.R_types P0.out B0.out (by decide)))))) (fun _ hk => trivial)), hC_⟩
  rw [if_neg c4] at H
  have c4b0 : (t0 == (a0.size : Int)) = false := beq_eq_false_iff_ne.mpr c4
  have c4b1 : (t0 != (a0.size : Int)) = true := bne_iff_ne.mpr c4
  simp only [Option.some.injEq, Prod.mk.injEq] at H
  obtain ⟨rfl, rfl, rfl, rfl⟩ := H
  go_enter Tryd.func26, Tryd.ntmps26
  go_wp2_with (first | (go_at_call 29; (with_reducible refine (sleuthref1_term.calls k a0 0 t1 t2 t3 t0 _ A3.out).mono ?_); rintro e w9 ⟨v0, rfl, ho0, hb⟩; have n0_ := Aside0.mk (Kd.R_lower ho0 hS_); have n1_ := Aside0.mk (below_step hB_ hb); clear HB; have P0 := n0_; have HB := n1_; clear n0_ n1_; (try clear hb); (try clear hb2); (try clear hk); (try clear hi); (try clear ho0)) | ((with_reducible refine gate_dst (N := 6) rfl ?_); refine boxE_ 6 #[.int .i64 0, .int .i64 0, .slice none 0 0, .int .i64 0] 59 ?_; intro g0 hg w0 hbox hb; have n0_ := Aside0.mk (Kd.R_below (hR_ P0.out) hb); have n1_ := Aside0.mk (below_step hB_ hb); have n2_ := Aside0.mk (hbox); have n3_ := Aside0.mk ((gE_ hg : w.heap.size ≤ g0)); have n4_ := Aside0.mk ((gE_ hg : w.heap.size ≤ g0)); clear P0 HB; have P0 := n0_; have HB := n1_; have B0 := n2_; have W0 := n3_; have E0 := n4_; clear n0_ n1_ n2_ n3_ n4_; clear hb hbox hg; obtain ⟨z4, z5, z6, z7, f4, f5, f6, f7⟩ := bx4_ B0.out; obtain ⟨a2, o1, e1⟩ := Kd.R_slice P0.out; subst e1))
  repeat (go_quiet (first | (go_at_call 29; (with_reducible refine (sleuthref1_term.calls k a0 0 t1 t2 t3 t0 _ A3.out).mono ?_); rintro e w9 ⟨v0, rfl, ho0, hb⟩; have n0_ := Aside0.mk (Kd.R_lower ho0 hS_); have n1_ := Aside0.mk (below_step hB_ hb); clear HB; have P0 := n0_; have HB := n1_; clear n0_ n1_; (try clear hb); (try clear hb2); (try clear hk); (try clear hi); (try clear ho0)) | ((with_reducible refine gate_dst (N := 6) rfl ?_); refine boxE_ 6 #[.int .i64 0, .int .i64 0, .slice none 0 0, .int .i64 0] 59 ?_; intro g0 hg w0 hbox hb; have n0_ := Aside0.mk (Kd.R_below (hR_ P0.out) hb); have n1_ := Aside0.mk (below_step hB_ hb); have n2_ := Aside0.mk (hbox); have n3_ := Aside0.mk ((gE_ hg : w.heap.size ≤ g0)); have n4_ := Aside0.mk ((gE_ hg : w.heap.size ≤ g0)); clear P0 HB; have P0 := n0_; have HB := n1_; have B0 := n2_; have W0 := n3_; have E0 := n4_; clear n0_ n1_ n2_ n3_ n4_; clear hb hbox hg; obtain ⟨z4, z5, z6, z7, f4, f5, f6, f7⟩ := bx4_ B0.out; obtain ⟨a2, o1, e1⟩ := Kd.R_slice P0.out; subst e1)); try go_wp2_with (first | (go_at_call 29; (with_reducible refine (sleuthref1_term.calls k a0 0 t1 t2 t3 t0 _ A3.out).mono ?_); rintro e w9 ⟨v0, rfl, ho0, hb⟩; have n0_ := Aside0.mk (Kd.R_lower ho0 hS_); have n1_ := Aside0.mk (below_step hB_ hb); clear HB; have P0 := n0_; have HB := n1_; clear n0_ n1_; (try clear hb); (try clear hb2); (try clear hk); (try clear hi); (try clear ho0)) | ((with_reducible refine gate_dst (N := 6) rfl ?_); refine boxE_ 6 #[.int .i64 0, .int .i64 0, .slice none 0 0, .int .i64 0] 59 ?_; intro g0 hg w0 hbox hb; have n0_ := Aside0.mk (Kd.R_below (hR_ P0.out) hb); have n1_ := Aside0.mk (below_step hB_ hb); have n2_ := Aside0.mk (hbox); have n3_ := Aside0.mk ((gE_ hg : w.heap.size ≤ g0)); have n4_ := Aside0.mk ((gE_ hg : w.heap.size ≤ g0)); clear P0 HB; have P0 := n0_; have HB := n1_; have B0 := n2_; have W0 := n3_; have E0 := n4_; clear n0_ n1_ n2_ n3_ n4_; clear hb hbox hg; obtain ⟨z4, z5, z6, z7, f4, f5, f6, f7⟩ := bx4_ B0.out; obtain ⟨a2, o1, e1⟩ := Kd.R_slice P0.out; subst e1)))
  refine bodyPost_ret (results_list (rs := [.tmp 2, .tmp 3, .tmp 4, .tmp 5]) rfl (by simp) (.tmp (.tmp (.tmp (.tmp .nil))))) rfl ?_
  exact ⟨_, hV_, by first | exact Kd.R_nil _ _ _ _ _ | exact Kd.N_nil _ _ _ _ _ | exact Kd.V_nil _ _ _ _ _ | exact Kd.Q_nil _ _ _ _ _ | exact Kd.S_nil _ _ _ _ _, hC_⟩

def sleuthref1_TermMay.f (k : Nat) (a0 : ByteArray) : Option (Bool) := (sleuthref1_Cut.f k a0).bind fun bt284 => (some (bt284.2.2.2 == 0))
set_option maxHeartbeats 8000000 in
set_option maxRecDepth 100000 in
theorem sleuthref1_TermMay.calls (k : Nat) (a0 : ByteArray) (r : Bool) (w : World) (h : sleuthref1_TermMay.f k a0 = some r) :
    Calls Tryd.prog 24 #[.string a0] w fun e w' => e = .returned (.bool r) ∧ Below w.heap.size w w' := by
  have HB := Aside0.mk (Below.refl w.heap.size w)
  have H : ((sleuthref1_Cut.f k a0).bind fun bt284 => (some (bt284.2.2.2 == 0))) = some r := h
  clear h
  replace H := Option.bind_eq_some_iff.mp H
  obtain ⟨⟨t1, t2, t3, t0⟩, A20, H⟩ := H
  replace H : (some (t0 == 0)) = some r := H
  have A2 := Aside0.mk A20
  clear A20
  obtain rfl := Option.some.inj H
  go_enter Tryd.func24, Tryd.ntmps24
  go_wp2_with (first | ((with_reducible refine gate_callee (f := 26) rfl ?_); refine goesL_ (some 9) rfl rfl Tryd.func26 (by kernel_rfl) rfl #[.string a0] rfl hL_ ?_; (with_reducible refine (sleuthref1_Cut.calls k a0 t1 t2 t3 t0 _ A2.out).mono ?_); rintro e w3 ⟨v0, rfl, ho0, hb⟩; refine ⟨_, rfl, ?_⟩; have n0_ := Aside0.mk (Kd.R_lower ho0 hS_); have n1_ := Aside0.mk (below_step hB_ hb); clear HB; have P0 := n0_; have HB := n1_; clear n0_ n1_; (try clear hb); (try clear hb2); (try clear hk); (try clear hi); (try clear ho0)))
  go_ret
  exact ⟨hV_, hC_⟩

def sleuthref12_texts.l0 : Nat → Int → Int → Int → List ByteArray → ByteArray → Option (Bool)
  | 0, _, _, _, _, _ => none
  | k + 1, x3, x291000, x291001, x291002, x291003 => if x3 < (x291002.length : Int) then (if 0 ≤ x3 then ((sleuthref1_TermMay.f k (rdOf ByteArray.empty x291002 x3)).bind fun t292 => (if t292 = true then (sleuthref12_texts.l0 k (wrap64 (x3 + 1)) x291000 x291001 x291002 x291003) else (some false))) else (none)) else ((sleuthref12_upTo.f x291000 0 7).bind fun t293 => (if t293 = true then (if (x291002.length : Int) ≤ 3 then ((sleuthref1_TermMay.f k x291003).bind fun t294 => (some t294)) else (some false)) else (some false)))
def sleuthref12_texts.f (k : Nat) (a0_0 : Int) (a0_1 : Int) (l0_2 : List ByteArray) (a0_3 : ByteArray) : Option (Bool) := sleuthref12_texts.l0 k 0 a0_0 a0_1 l0_2 a0_3
set_option maxHeartbeats 8000000 in
set_option maxRecDepth 100000 in
theorem sleuthref12_texts.calls (k : Nat) (a0_0 : Int) (a0_1 : Int) (A0_2 : Option Addr) (c0_2 : Nat) (l0_2 : List ByteArray) (a0_3 : ByteArray) (r : Bool) (w : World) (hr0_2 : Kd.C Kd.string w A0_2 l0_2.length l0_2) (hc0_2 : l0_2.length ≤ c0_2) (h : sleuthref12_texts.f k a0_0 a0_1 l0_2 a0_3 = some r) :
    Calls Tryd.prog 21 #[.agg #[.int .i64 a0_0, .int .i64 a0_1, .slice A0_2 l0_2.length c0_2, .string a0_3]] w fun e w' => e = .returned (.bool r) ∧ Below w.heap.size w w' := by
  have hu35 := Tryd.underlying35
  have HR0_2 := Aside0.mk hr0_2
  have HC0_2 := Aside0.mk hc0_2
  clear hr0_2 hc0_2
  have HB := Aside0.mk (Below.refl w.heap.size w)
  have H : (sleuthref12_texts.l0 k 0 a0_0 a0_1 l0_2 a0_3) = some r := h
  clear h
  have H' := Aside0.mk H
  clear H
  go_enter Tryd.func21, Tryd.ntmps21
  go_wp2_with (first | ((with_reducible refine gate_dst (N := 1) rfl ?_); (try (refine gate_guard (by rfl) ?_; dsimp only)); refine boxE_ 1 #[.int .i64 a0_0, .int .i64 a0_1, .slice A0_2 l0_2.length c0_2, .string a0_3] 35 ?_; intro g0 hg w2 hbox hb; have n0_ := Aside0.mk (below_step hB_ hb); have n1_ := Aside0.mk (hbox); have n2_ := Aside0.mk ((gE_ hg : w.heap.size ≤ g0)); have n3_ := Aside0.mk ((gE_ hg : w.heap.size ≤ g0)); clear HB; have HB := n0_; have B0 := n1_; have W0 := n2_; have E0 := n3_; clear n0_ n1_ n2_ n3_; clear hb hbox hg))
  (try simp only [Act.put, List.setIfInBounds_toArray, List.set_cons_zero, List.set_cons_succ])
  go_loopg [3] k (fun kq v3 w' => ∃ (x0 : Int), v3 = .int .i64 x0 ∧ Aside0 (sleuthref12_texts.l0 kq x0 a0_0 a0_1 l0_2 a0_3 = some r) ∧ Aside0 (kq ≤ k) ∧ Aside0 (w'.heap[g0]? = some (.cells #[.int .i64 a0_0, .int .i64 a0_1, (.slice A0_2 l0_2.length c0_2), .string a0_3] 35 (0, 0))) ∧ Aside0 (Below w.heap.size w w'))
  case atStart => exact ⟨(0), hW_, H', ⟨Nat.le_refl _⟩, ⟨(hK_ B0.out)⟩, ⟨hC_⟩⟩
  case round =>
    clear H'
    try clear c2
    try clear p2
    obtain ⟨x0, rfl, HA, HK1, B0, HB⟩ := hrel
    cases gk with
    | zero => exact absurd HA.out (by simp [sleuthref12_texts.l0])
    | succ k1 =>
      have H := HA.out
      clear HA
      simp only [sleuthref12_texts.l0] at H
      by_cases c3 : x0 < (l0_2.length : Int)
      case pos =>
        rw [if_pos c3] at H
        have c3b0 : decide (x0 < (l0_2.length : Int)) = true := decide_eq_true c3
        clear c3
        replace H := ifI_ H; obtain ⟨c4, H⟩ := H
        have c4b0 : decide (0 ≤ x0) = true := decide_eq_true c4
        clear c4
        replace H := Option.bind_eq_some_iff.mp H
        obtain ⟨t1, A50, H⟩ := H
        replace H : (if t1 = true then (sleuthref12_texts.l0 k1 (wrap64 (x0 + 1)) a0_0 a0_1 l0_2 a0_3) else (some false)) = some r := H
        have A5 := Aside0.mk A50
        clear A50
        by_cases c6 : t1 = true
        case neg =>
          replace c6 := Bool.eq_false_iff.mpr c6
          subst c6
          have H1 : (some false) = some r := by rw [if_neg (show ¬ (false = true) by decide)] at H; exact H
          clear H
          have H := H1
          clear H1
          obtain rfl := Option.some.inj H
          obtain ⟨z0, z1, z2, z3, f0, f1, f2, f3⟩ := bx4_ B0.out
          have p291 : 0 ≤ (x0 : Int) := of_decide_eq_true hA_
          have q291 : x0 < (l0_2.length : Int) := of_decide_eq_true hA_
          obtain ⟨d0, e291, h0⟩ := Kd.at_string HR0_2.out x0 p291 q291
          cases e291
          replace h0 := cl_ HB.out h0
          replace p291 := eq_true p291
          replace q291 := eq_true q291
          go_wp2_with (first | ((with_reducible refine gate_callee (f := 24) rfl ?_); refine goesL_ (some 16) rfl rfl Tryd.func24 (by kernel_rfl) rfl #[.string (rdOf ByteArray.empty l0_2 x0)] rfl hL_ ?_; (with_reducible refine (sleuthref1_TermMay.calls k1 (rdOf ByteArray.empty l0_2 x0) false _ A5.out).mono ?_); rintro e w0 ⟨rfl, hb⟩; refine ⟨_, rfl, ?_⟩; have n0_ := Aside0.mk (bB_ B0.out hb); have n1_ := Aside0.mk (below_step hC_ hb); clear B0 HB; have B0 := n0_; have HB := n1_; clear n0_ n1_; (try clear hb); (try clear hb2); (try clear hk); (try clear hi)))
          go_ret
          exact ⟨hV_, hC_⟩
        subst c6
        have H1 : (sleuthref12_texts.l0 k1 (wrap64 (x0 + 1)) a0_0 a0_1 l0_2 a0_3) = some r := by rw [if_pos rfl] at H; exact H
        clear H
        have H := H1
        clear H1
        have H' := Aside0.mk H
        clear H
        obtain ⟨z4, z5, z6, z7, f4, f5, f6, f7⟩ := bx4_ B0.out
        have p291 : 0 ≤ (x0 : Int) := of_decide_eq_true hA_
        have q291 : x0 < (l0_2.length : Int) := of_decide_eq_true hA_
        obtain ⟨d0, e291, h0⟩ := Kd.at_string HR0_2.out x0 p291 q291
        cases e291
        replace h0 := cl_ HB.out h0
        replace p291 := eq_true p291
        replace q291 := eq_true q291
        go_wp2_with (first | ((with_reducible refine gate_callee (f := 24) rfl ?_); refine goesL_ (some 16) rfl rfl Tryd.func24 (by kernel_rfl) rfl #[.string (rdOf ByteArray.empty l0_2 x0)] rfl hL_ ?_; (with_reducible refine (sleuthref1_TermMay.calls k1 (rdOf ByteArray.empty l0_2 x0) true _ A5.out).mono ?_); rintro e w8 ⟨rfl, hb⟩; refine ⟨_, rfl, ?_⟩; have n0_ := Aside0.mk (bB_ B0.out hb); have n1_ := Aside0.mk (below_step hC_ hb); clear B0 HB; have B0 := n0_; have HB := n1_; clear n0_ n1_; (try clear hb); (try clear hb2); (try clear hk); (try clear hi)))
        go_roundg k1
        case measure => have := HK1.out; omega
        case rel => exact ⟨(wrap64 (x0 + 1)), hW_, H', ⟨by have := HK1.out; omega⟩, ⟨(hK_ B0.out)⟩, ⟨hC_⟩⟩
      rw [if_neg c3] at H
      have c3b0 : decide (x0 < (l0_2.length : Int)) = false := decide_eq_false c3
      clear c3
      replace H := Option.bind_eq_some_iff.mp H
      obtain ⟨t2, A110, H⟩ := H
      replace H : (if t2 = true then (if (l0_2.length : Int) ≤ 3 then ((sleuthref1_TermMay.f k1 a0_3).bind fun t0 => (some t0)) else (some false)) else (some false)) = some r := H
      have A11 := Aside0.mk A110
      clear A110
      by_cases c12 : t2 = true
      case neg =>
        replace c12 := Bool.eq_false_iff.mpr c12
        subst c12
        have H1 : (some false) = some r := by rw [if_neg (show ¬ (false = true) by decide)] at H; exact H
        clear H
        have H := H1
        clear H1
        obtain rfl := Option.some.inj H
        obtain ⟨z8, z9, z10, z11, f8, f9, f10, f11⟩ := bx4_ B0.out
        go_wp2_with (first | ((with_reducible refine gate_callee (f := 22) rfl ?_); refine goesL_ _ rfl rfl Tryd.func22 (by kernel_rfl) rfl #[.int .i64 a0_0, .int .i64 0, .int .i64 7] rfl hL_ ?_; (with_reducible refine (sleuthref12_upTo.calls a0_0 0 7 false _ A11.out).mono ?_); rintro e w' ⟨rfl, ⟨nd, rfl⟩⟩; refine ⟨_, rfl, ?_⟩))
        go_ret
        exact ⟨hV_, hC_⟩

      subst c12
      have H1 : (if (l0_2.length : Int) ≤ 3 then ((sleuthref1_TermMay.f k1 a0_3).bind fun t0 => (some t0)) else (some false)) = some r := by rw [if_pos rfl] at H; exact H
      clear H
      have H := H1
      clear H1
      by_cases c13 : (l0_2.length : Int) ≤ 3
      case neg =>
        rw [if_neg c13] at H
        have c13b0 : decide ((l0_2.length : Int) ≤ 3) = false := decide_eq_false c13
        have c13b1 : decide (l0_2.length ≤ 3) = false := decide_eq_false (by omega)
        clear c13
        obtain rfl := Option.some.inj H
        obtain ⟨z12, z13, z14, z15, f12, f13, f14, f15⟩ := bx4_ B0.out
        go_wp2_with (first | ((with_reducible refine gate_callee (f := 22) rfl ?_); refine goesL_ _ rfl rfl Tryd.func22 (by kernel_rfl) rfl #[.int .i64 a0_0, .int .i64 0, .int .i64 7] rfl hL_ ?_; (with_reducible refine (sleuthref12_upTo.calls a0_0 0 7 true _ A11.out).mono ?_); rintro e w' ⟨rfl, ⟨nd, rfl⟩⟩; refine ⟨_, rfl, ?_⟩))
        go_ret
        exact ⟨hV_, hC_⟩
      rw [if_pos c13] at H
      have c13b0 : decide ((l0_2.length : Int) ≤ 3) = true := decide_eq_true c13
      have c13b1 : decide (l0_2.length ≤ 3) = true := decide_eq_true (by omega)
      clear c13
      replace H := Option.bind_eq_some_iff.mp H
      obtain ⟨t0, A140, H⟩ := H
      replace H : (some t0) = some r := H
      have A14 := Aside0.mk A140
      clear A140
      obtain rfl := Option.some.inj H
      obtain ⟨z16, z17, z18, z19, f16, f17, f18, f19⟩ := bx4_ B0.out
      go_wp2_with (first | ((with_reducible refine gate_callee (f := 22) rfl ?_); refine goesL_ _ rfl rfl Tryd.func22 (by kernel_rfl) rfl #[.int .i64 a0_0, .int .i64 0, .int .i64 7] rfl hL_ ?_; (with_reducible refine (sleuthref12_upTo.calls a0_0 0 7 true _ A11.out).mono ?_); rintro e w' ⟨rfl, ⟨nd, rfl⟩⟩; refine ⟨_, rfl, ?_⟩) | (go_at_call 24; (with_reducible refine (sleuthref1_TermMay.calls k1 a0_3 t0 _ A14.out).mono ?_); rintro e w1 ⟨rfl, hb⟩; have n0_ := Aside0.mk (bB_ B0.out hb); have n1_ := Aside0.mk (below_step hC_ hb); clear B0 HB; have B0 := n0_; have HB := n1_; clear n0_ n1_; (try clear hb); (try clear hb2); (try clear hk); (try clear hi)))
      go_ret
      exact ⟨hV_, hC_⟩
end Go.Proofs.YtjodjfbhaojhjaaDoor.G
end
