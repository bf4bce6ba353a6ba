-- Laid by the session's own driver gp.py over the kit's printer. Not trusted: Lean checks it.
import Derived.Test.YtjodjfbhaojhjaaDoorG0
import Derived.Test.YtjodjfbhaojhjaaDoorU6
import Derived.Test.YtjodjfbhaojhjaaDoorU7
import Derived.Test.YtjodjfbhaojhjaaDoorU9
namespace Go.Proofs.YtjodjfbhaojhjaaDoor.G
open Go.RowKit Go.Proofs.YtjodjfbhaojhjaaDoorW.PrintWords Go.Proofs.YtjodjfbhaojhjaaDoorW.PrintLast Go.Proofs.YtjodjfbhaojhjaaDoorW.PrintMore
attribute [local go_sem] max2_int min2_int max_two min_two max_three min_three max_four min_four   -- for this text's walks alone
set_option linter.unusedVariables false
set_option linter.unusedSimpArgs false

mutual
def sleuthlaw13_TreeSums.l0 : Nat → List (S35) → Int → Option (Bool)
  | 0, _, _ => none
  | k + 1, x0, x3 => if x3 < (x0.length : Int) then (sleuthlaw13_TreeSums.j1 k x0 x3 (decide (x3 < 40))) else (sleuthlaw13_TreeSums.j1 k x0 x3 false)
def sleuthlaw13_TreeSums.j1 : Nat → List (S35) → Int → Bool → Option (Bool)
  | 0, _, _, _ => none
  | k + 1, x0, x3, x21 => if x21 = true then ((tree_Size.f k x0 x3).bind fun bt302 => ((tree_Kids.f k x0 x3).bind fun bt304 => ((sleuthlaw0_Num.f bt302.2).bind fun t308 => (if t308 = 0 then ((sleuthlaw0_Num.f bt304.2).bind fun t309 => (sleuthlaw13_TreeSums.j2 k x0 x3 bt302.1 bt302.2 bt304.1 bt304.2 (t309 != 0))) else (sleuthlaw13_TreeSums.j2 k x0 x3 bt302.1 bt302.2 bt304.1 bt304.2 true))))) else (some true)
def sleuthlaw13_TreeSums.j2 : Nat → List (S35) → Int → Int → Int → List Int → Int → Bool → Option (Bool)
  | 0, _, _, _, _, _, _, _ => none
  | k + 1, x0, x3, x4, x5, x6, x7, x43 => if x43 = true then ((sleuthlaw0_Num.f x5).bind fun t310 => ((sleuthlaw0_Num.f x7).bind fun t311 => (if t310 = t311 then ((sleuthref12_TrailMay.f k x0).bind fun t312 => (some (!t312))) else (none)))) else (sleuthlaw13_TreeSums.l1 k x0 x3 x4 x6 1 0)
def sleuthlaw13_TreeSums.l1 : Nat → List (S35) → Int → Int → List Int → Int → Int → Option (Bool)
  | 0, _, _, _, _, _, _ => none
  | k + 1, x0, x3, x4, x6, x8, x9 => if x9 < (x6.length : Int) then (if 0 ≤ x9 then ((tree_Size.f k x0 (rd x6 x9)).bind fun bt314 => ((sleuthlaw0_Num.f bt314.2).bind fun t316 => (if t316 = 0 then (if (rd x6 x9) ≤ x3 then (none) else (if x9 > 0 then (if 0 ≤ (wrap64 (x9 - 1)) then (if (wrap64 (x9 - 1)) < (x6.length : Int) then (if (rd x6 (wrap64 (x9 - 1))) ≥ (rd x6 x9) then (none) else (sleuthlaw13_TreeSums.l1 k x0 x3 x4 x6 (wrap64 (x8 + bt314.1)) (wrap64 (x9 + 1)))) else (none)) else (none)) else (sleuthlaw13_TreeSums.l1 k x0 x3 x4 x6 (wrap64 (x8 + bt314.1)) (wrap64 (x9 + 1))))) else (none)))) else (none)) else (if x4 = x8 then (if x3 = 0 then (if x4 = (x0.length : Int) then (sleuthlaw13_TreeSums.l0 k x0 (wrap64 (x3 + 1))) else (none)) else (sleuthlaw13_TreeSums.l0 k x0 (wrap64 (x3 + 1)))) else (none))
end
def sleuthlaw13_TreeSums.f (k : Nat) (l0 : List (S35)) : Option (Bool) := (sleuthlaw13_awake.f k).bind fun t301 => (if t301 = true then (sleuthlaw13_TreeSums.l0 k l0 0) else (none))
set_option maxHeartbeats 8000000 in
set_option maxRecDepth 100000 in
theorem sleuthlaw13_TreeSums.calls (k : Nat) (A0 : Option Addr) (c0 : Nat) (l0 : List (S35)) (r : Bool) (w : World) (hr0 : Kd.C k35 w A0 l0.length l0) (hc0 : l0.length ≤ c0) (h : sleuthlaw13_TreeSums.f k l0 = some r) (hG : GOK w) :
    Calls Tryd.prog 3 #[.slice A0 l0.length c0] w fun e w' => e = .returned (.bool r) ∧ Below w.heap.size w w' := by
  have HR0 := Aside0.mk hr0
  have HC0 := Aside0.mk hc0
  clear hr0 hc0
  have HB := Aside0.mk (Below.refl w.heap.size w)
  have H : ((sleuthlaw13_awake.f k).bind fun t12 => (if t12 = true then (sleuthlaw13_TreeSums.l0 k l0 0) else (none))) = some r := h
  clear h
  replace H := Option.bind_eq_some_iff.mp H
  obtain ⟨t12, A20, H⟩ := H
  replace H : (if t12 = true then (sleuthlaw13_TreeSums.l0 k l0 0) else (none)) = some r := H
  have A2 := Aside0.mk A20
  clear A20
  by_cases c3 : t12 = true
  case neg =>
    replace c3 := Bool.eq_false_iff.mpr c3
    subst c3
    have H1 : (none) = some r := by rw [if_neg (show ¬ (false = true) by decide)] at H; exact H
    clear H
    have H := H1
    clear H1
    cases H
  subst c3
  have H1 : (sleuthlaw13_TreeSums.l0 k l0 0) = some r := by rw [if_pos rfl] at H; exact H
  clear H
  have H := H1
  clear H1
  have H' := Aside0.mk H
  clear H
  go_enter Tryd.func3, Tryd.ntmps3
  go_wp2_with (first | (go_at_call 5; (with_reducible refine (sleuthlaw13_awake.calls k  true _ A2.out hG_).mono ?_); rintro e w4 ⟨rfl, hb⟩; have n0_ := Aside0.mk (below_step hB_ hb); clear HB; have HB := n0_; clear n0_; (try clear hb); (try clear hb2); (try clear hk); (try clear hi)))
  repeat (go_quiet (first | (go_at_call 5; (with_reducible refine (sleuthlaw13_awake.calls k  true _ A2.out hG_).mono ?_); rintro e w4 ⟨rfl, hb⟩; have n0_ := Aside0.mk (below_step hB_ hb); clear HB; have HB := n0_; clear n0_; (try clear hb); (try clear hb2); (try clear hk); (try clear hi))); try go_wp2_with (first | (go_at_call 5; (with_reducible refine (sleuthlaw13_awake.calls k  true _ A2.out hG_).mono ?_); rintro e w4 ⟨rfl, hb⟩; have n0_ := Aside0.mk (below_step hB_ hb); clear HB; have HB := n0_; clear n0_; (try clear hb); (try clear hb2); (try clear hk); (try clear hi))))
  go_loopg [3] k (fun kq v3 w' => ∃ (x1 : Int), v3 = .int .i64 x1 ∧ Aside0 (sleuthlaw13_TreeSums.l0 kq l0 x1 = some r) ∧ Aside0 (kq ≤ k) ∧ Aside0 (Below w.heap.size w w'))
  case atStart => exact ⟨(0), hW_, H', ⟨Nat.le_refl _⟩, ⟨hC_⟩⟩
  case round =>
    clear H'
    try clear p2
    try clear c3
    obtain ⟨x1, rfl, HA, HK1, HB⟩ := hrel
    cases gk with
    | zero => exact absurd HA.out (by simp [sleuthlaw13_TreeSums.l0])
    | succ k1 =>
      have H := HA.out
      clear HA
      simp only [sleuthlaw13_TreeSums.l0] at H
      have HC5 := Aside0.mk H
      clear H
      go_upto_region 4 with (fail)
      repeat (go_quiet (fail); go_upto_region 4 with (fail))
      go_cut [21] (fun v1 wc => ∃ (kq : Nat) (x3 : Bool), v1 = .bool x3 ∧ Aside0 (sleuthlaw13_TreeSums.j1 kq l0 x1 x3 = some r) ∧ Aside0 (kq ≤ k1) ∧ Aside0 (Below w.heap.size w wc))
      case first =>
        have H := HC5.out
        clear HC5
        by_cases c6 : x1 < (l0.length : Int)
        case neg =>
          rw [if_neg c6] at H
          have c6b0 : decide (x1 < (l0.length : Int)) = false := decide_eq_false c6
          clear c6
          (first | rw [c6b0] | (simp only [i64_w, i32_w]; rw [c6b0]) | skip)
          have H' := Aside0.mk H
          clear H
          go_wp2
          repeat (go_quiet (fail); try go_wp2)
          go_meet
          case rel => exact ⟨_, (false), hW_, H', ⟨by have := HK1.out; first | omega | exact Nat.le_refl _⟩, ⟨hC_⟩⟩
        rw [if_pos c6] at H
        have c6b0 : decide (x1 < (l0.length : Int)) = true := decide_eq_true c6
        clear c6
        (first | rw [c6b0] | (simp only [i64_w, i32_w]; rw [c6b0]) | skip)
        have H' := Aside0.mk H
        clear H
        go_wp2
        repeat (go_quiet (fail); try go_wp2)
        go_meet
        case rel => exact ⟨_, (decide (x1 < 40)), hW_, H', ⟨by have := HK1.out; first | omega | exact Nat.le_refl _⟩, ⟨hC_⟩⟩
      case rest =>
        clear HC5
        try clear p2
        try clear c3
        try clear c6
        try clear c6b0
        try clear p2
        obtain ⟨kq, x3, rfl, HA, HJ4, HB⟩ := hcut
        cases kq with
        | zero => exact absurd HA.out (by simp [sleuthlaw13_TreeSums.j1])
        | succ kj4 =>
          have H := HA.out
          clear HA
          simp only [sleuthlaw13_TreeSums.j1] at H
          by_cases c7 : x3 = true
          case neg =>
            replace c7 := Bool.eq_false_iff.mpr c7
            subst c7
            have H1 : (some true) = some r := by rw [if_neg (show ¬ (false = true) by decide)] at H; exact H
            clear H
            have H := H1
            clear H1
            obtain rfl := Option.some.inj H
            go_wp2
            repeat (go_quiet (fail); try go_wp2)
            go_ret
            exact ⟨hV_, hC_⟩
          subst c7
          have H1 : ((tree_Size.f kj4 l0 x1).bind fun bt302 => ((tree_Kids.f kj4 l0 x1).bind fun bt304 => ((sleuthlaw0_Num.f bt302.2).bind fun t4 => (if t4 = 0 then ((sleuthlaw0_Num.f bt304.2).bind fun t5 => (sleuthlaw13_TreeSums.j2 kj4 l0 x1 bt302.1 bt302.2 bt304.1 bt304.2 (t5 != 0))) else (sleuthlaw13_TreeSums.j2 kj4 l0 x1 bt302.1 bt302.2 bt304.1 bt304.2 true))))) = some r := by rw [if_pos rfl] at H; exact H
          clear H
          have H := H1
          clear H1
          replace H := Option.bind_eq_some_iff.mp H
          obtain ⟨⟨t1, t2⟩, A80, H⟩ := H
          replace H : ((tree_Kids.f kj4 l0 x1).bind fun bt304 => ((sleuthlaw0_Num.f t2).bind fun t4 => (if t4 = 0 then ((sleuthlaw0_Num.f bt304.2).bind fun t5 => (sleuthlaw13_TreeSums.j2 kj4 l0 x1 t1 t2 bt304.1 bt304.2 (t5 != 0))) else (sleuthlaw13_TreeSums.j2 kj4 l0 x1 t1 t2 bt304.1 bt304.2 true)))) = some r := H
          have A8 := Aside0.mk A80
          clear A80
          replace H := Option.bind_eq_some_iff.mp H
          obtain ⟨⟨t0, t3⟩, A90, H⟩ := H
          replace H : ((sleuthlaw0_Num.f t2).bind fun t4 => (if t4 = 0 then ((sleuthlaw0_Num.f t3).bind fun t5 => (sleuthlaw13_TreeSums.j2 kj4 l0 x1 t1 t2 t0 t3 (t5 != 0))) else (sleuthlaw13_TreeSums.j2 kj4 l0 x1 t1 t2 t0 t3 true))) = some r := H
          have A9 := Aside0.mk A90
          clear A90
          have HC10 := Aside0.mk H
          clear H
          go_upto_region 8 with (first | (go_at_call 6; (with_reducible refine (tree_Size.calls kj4 _ _ l0 x1 t1 t2 _ ?s1 ?s2 A8.out hG_).mono ?_); (case s1 => exact cB_ HR0.out); (case s2 => exact HC0.out); rintro e w0 ⟨rfl, hb⟩; have n0_ := Aside0.mk (below_step hB_ hb); clear HB; have HB := n0_; clear n0_; (try clear hb); (try clear hb2); (try clear hk); (try clear hi)) | (go_at_call 7; (with_reducible refine (tree_Kids.calls kj4 _ _ l0 x1 t0 t3 _ ?s1 ?s2 A9.out hG_).mono ?_); (case s1 => exact cB_ HR0.out); (case s2 => exact HC0.out); rintro e w1 ⟨v0, rfl, ho0, hb⟩; have n0_ := Aside0.mk (Kd.R_lower ho0 hS_); have n1_ := Aside0.mk (below_step hB_ hb); clear HB; have P0 := n0_; have HB := n1_; clear n0_ n1_; (try clear hb); (try clear hb2); (try clear hk); (try clear hi); (try clear ho0)))
          repeat (go_quiet (first | (go_at_call 6; (with_reducible refine (tree_Size.calls kj4 _ _ l0 x1 t1 t2 _ ?s1 ?s2 A8.out hG_).mono ?_); (case s1 => exact cB_ HR0.out); (case s2 => exact HC0.out); rintro e w0 ⟨rfl, hb⟩; have n0_ := Aside0.mk (below_step hB_ hb); clear HB; have HB := n0_; clear n0_; (try clear hb); (try clear hb2); (try clear hk); (try clear hi)) | (go_at_call 7; (with_reducible refine (tree_Kids.calls kj4 _ _ l0 x1 t0 t3 _ ?s1 ?s2 A9.out hG_).mono ?_); (case s1 => exact cB_ HR0.out); (case s2 => exact HC0.out); rintro e w1 ⟨v0, rfl, ho0, hb⟩; have n0_ := Aside0.mk (Kd.R_lower ho0 hS_); have n1_ := Aside0.mk (below_step hB_ hb); clear HB; have P0 := n0_; have HB := n1_; clear n0_ n1_; (try clear hb); (try clear hb2); (try clear hk); (try clear hi); (try clear ho0))); go_upto_region 8 with (first | (go_at_call 6; (with_reducible refine (tree_Size.calls kj4 _ _ l0 x1 t1 t2 _ ?s1 ?s2 A8.out hG_).mono ?_); (case s1 => exact cB_ HR0.out); (case s2 => exact HC0.out); rintro e w0 ⟨rfl, hb⟩; have n0_ := Aside0.mk (below_step hB_ hb); clear HB; have HB := n0_; clear n0_; (try clear hb); (try clear hb2); (try clear hk); (try clear hi)) | (go_at_call 7; (with_reducible refine (tree_Kids.calls kj4 _ _ l0 x1 t0 t3 _ ?s1 ?s2 A9.out hG_).mono ?_); (case s1 => exact cB_ HR0.out); (case s2 => exact HC0.out); rintro e w1 ⟨v0, rfl, ho0, hb⟩; have n0_ := Aside0.mk (Kd.R_lower ho0 hS_); have n1_ := Aside0.mk (below_step hB_ hb); clear HB; have P0 := n0_; have HB := n1_; clear n0_ n1_; (try clear hb); (try clear hb2); (try clear hk); (try clear hi); (try clear ho0))))
          (try simp only [Act.put, List.setIfInBounds_toArray, List.set_cons_zero, List.set_cons_succ])
          go_cut [43] (fun v2 wc => ∃ (kq : Nat) (x4 : Bool), v2 = .bool x4 ∧ Aside0 (sleuthlaw13_TreeSums.j2 kq l0 x1 t1 t2 t0 t3 x4 = some r) ∧ Aside0 (kq ≤ kj4) ∧ Aside0 (Kd.R (Kd.int .i64) 3 wc w.heap.size (fun _ => True) v0 t0) ∧ Aside0 (Below w.heap.size w wc))
          case first =>
            have H := HC10.out
            clear HC10
            replace H := Option.bind_eq_some_iff.mp H
            obtain ⟨t4, A130, H⟩ := H
            replace H : (if t4 = 0 then ((sleuthlaw0_Num.f t3).bind fun t5 => (sleuthlaw13_TreeSums.j2 kj4 l0 x1 t1 t2 t0 t3 (t5 != 0))) else (sleuthlaw13_TreeSums.j2 kj4 l0 x1 t1 t2 t0 t3 true)) = some r := H
            have A13 := Aside0.mk A130
            clear A130
            by_cases c14 : t4 = 0
            case neg =>
              rw [if_neg c14] at H
              have c14b0 : (t4 == 0) = false := beq_eq_false_iff_ne.mpr c14
              have c14b1 : (t4 != 0) = true := bne_iff_ne.mpr c14
              (first | rw [c14b0] | (simp only [i64_w, i32_w]; rw [c14b0]) | skip)
              have H' := Aside0.mk H
              clear H
              go_wp2_with (first | (go_at_call 8; (with_reducible refine (sleuthlaw0_Num.calls t2 t4 _ A13.out).mono ?_); rintro e w' ⟨rfl, ⟨nd, rfl⟩⟩; (try first | exact ⟨rfl, _, World.drewN_drewN _ _ _⟩ | exact ⟨rfl, _, Eq.trans (World.drewN_drewN _ _ _) (congrArg (World.drewN _) (Nat.add_assoc _ _ _))⟩)))
              repeat (go_quiet (first | (go_at_call 8; (with_reducible refine (sleuthlaw0_Num.calls t2 t4 _ A13.out).mono ?_); rintro e w' ⟨rfl, ⟨nd, rfl⟩⟩; (try first | exact ⟨rfl, _, World.drewN_drewN _ _ _⟩ | exact ⟨rfl, _, Eq.trans (World.drewN_drewN _ _ _) (congrArg (World.drewN _) (Nat.add_assoc _ _ _))⟩))); try go_wp2_with (first | (go_at_call 8; (with_reducible refine (sleuthlaw0_Num.calls t2 t4 _ A13.out).mono ?_); rintro e w' ⟨rfl, ⟨nd, rfl⟩⟩; (try first | exact ⟨rfl, _, World.drewN_drewN _ _ _⟩ | exact ⟨rfl, _, Eq.trans (World.drewN_drewN _ _ _) (congrArg (World.drewN _) (Nat.add_assoc _ _ _))⟩))))
              go_meet
              case rel => exact ⟨_, (true), hW_, H', ⟨by have := HK1.out; have := HJ4.out; first | omega | exact Nat.le_refl _⟩, ⟨hR_ P0.out⟩, ⟨hC_⟩⟩
            rw [if_pos c14] at H
            have c14b0 : (t4 == 0) = true := beq_iff_eq.mpr c14
            have c14b1 : (t4 != 0) = false := bne_eq_false_iff_eq.mpr c14
            clear c14
            (first | rw [c14b0] | (simp only [i64_w, i32_w]; rw [c14b0]) | skip)
            replace H := Option.bind_eq_some_iff.mp H
            obtain ⟨t5, A150, H⟩ := H
            replace H : (sleuthlaw13_TreeSums.j2 kj4 l0 x1 t1 t2 t0 t3 (t5 != 0)) = some r := H
            have A15 := Aside0.mk A150
            clear A150
            have H' := Aside0.mk H
            clear H
            go_wp2_with (first | (go_at_call 8; (with_reducible refine (sleuthlaw0_Num.calls t2 t4 _ A13.out).mono ?_); rintro e w' ⟨rfl, ⟨nd, rfl⟩⟩; (try first | exact ⟨rfl, _, World.drewN_drewN _ _ _⟩ | exact ⟨rfl, _, Eq.trans (World.drewN_drewN _ _ _) (congrArg (World.drewN _) (Nat.add_assoc _ _ _))⟩)) | (go_at_call 8; (with_reducible refine (sleuthlaw0_Num.calls t3 t5 _ A15.out).mono ?_); rintro e w' ⟨rfl, ⟨nd, rfl⟩⟩; (try first | exact ⟨rfl, _, World.drewN_drewN _ _ _⟩ | exact ⟨rfl, _, Eq.trans (World.drewN_drewN _ _ _) (congrArg (World.drewN _) (Nat.add_assoc _ _ _))⟩)))
            repeat (go_quiet (first | (go_at_call 8; (with_reducible refine (sleuthlaw0_Num.calls t2 t4 _ A13.out).mono ?_); rintro e w' ⟨rfl, ⟨nd, rfl⟩⟩; (try first | exact ⟨rfl, _, World.drewN_drewN _ _ _⟩ | exact ⟨rfl, _, Eq.trans (World.drewN_drewN _ _ _) (congrArg (World.drewN _) (Nat.add_assoc _ _ _))⟩)) | (go_at_call 8; (with_reducible refine (sleuthlaw0_Num.calls t3 t5 _ A15.out).mono ?_); rintro e w' ⟨rfl, ⟨nd, rfl⟩⟩; (try first | exact ⟨rfl, _, World.drewN_drewN _ _ _⟩ | exact ⟨rfl, _, Eq.trans (World.drewN_drewN _ _ _) (congrArg (World.drewN _) (Nat.add_assoc _ _ _))⟩))); try go_wp2_with (first | (go_at_call 8; (with_reducible refine (sleuthlaw0_Num.calls t2 t4 _ A13.out).mono ?_); rintro e w' ⟨rfl, ⟨nd, rfl⟩⟩; (try first | exact ⟨rfl, _, World.drewN_drewN _ _ _⟩ | exact ⟨rfl, _, Eq.trans (World.drewN_drewN _ _ _) (congrArg (World.drewN _) (Nat.add_assoc _ _ _))⟩)) | (go_at_call 8; (with_reducible refine (sleuthlaw0_Num.calls t3 t5 _ A15.out).mono ?_); rintro e w' ⟨rfl, ⟨nd, rfl⟩⟩; (try first | exact ⟨rfl, _, World.drewN_drewN _ _ _⟩ | exact ⟨rfl, _, Eq.trans (World.drewN_drewN _ _ _) (congrArg (World.drewN _) (Nat.add_assoc _ _ _))⟩))))
            go_meet
            case rel => exact ⟨_, ((t5 != 0)), hW_, H', ⟨by have := HK1.out; have := HJ4.out; first | omega | exact Nat.le_refl _⟩, ⟨hR_ P0.out⟩, ⟨hC_⟩⟩
          case rest =>
            clear HC10
            try clear c1
            try clear p2
            try clear c3
            try clear c6
            try clear c6b0
            try clear c7
            try clear c14
            try clear c14b0
            try clear c14b1
            try clear p2
            obtain ⟨kq, x4, rfl, HA, HJ9, O0, HB⟩ := hcut
            cases kq with
            | zero => exact absurd HA.out (by simp [sleuthlaw13_TreeSums.j2])
            | succ kj9 =>
              have H := HA.out
              clear HA
              simp only [sleuthlaw13_TreeSums.j2] at H
              by_cases c16 : x4 = true
              case pos =>
                subst c16
                have H1 : ((sleuthlaw0_Num.f t2).bind fun t7 => ((sleuthlaw0_Num.f t3).bind fun t6 => (if t7 = t6 then ((sleuthref12_TrailMay.f kj9 l0).bind fun t8 => (some (!t8))) else (none)))) = some r := by rw [if_pos rfl] at H; exact H
                clear H
                have H := H1
                clear H1
                replace H := Option.bind_eq_some_iff.mp H
                obtain ⟨t7, A170, H⟩ := H
                replace H : ((sleuthlaw0_Num.f t3).bind fun t6 => (if t7 = t6 then ((sleuthref12_TrailMay.f kj9 l0).bind fun t8 => (some (!t8))) else (none))) = some r := H
                have A17 := Aside0.mk A170
                clear A170
                replace H := Option.bind_eq_some_iff.mp H
                obtain ⟨t6, A180, H⟩ := H
                replace H : (if t7 = t6 then ((sleuthref12_TrailMay.f kj9 l0).bind fun t8 => (some (!t8))) else (none)) = some r := H
                have A18 := Aside0.mk A180
                clear A180
                by_cases c19 : t7 = t6
                case neg =>
                  rw [if_neg c19] at H
                  have c19b0 : (t7 == t6) = false := beq_eq_false_iff_ne.mpr c19
                  have c19b1 : (t7 != t6) = true := bne_iff_ne.mpr c19
                  cases H
                rw [if_pos c19] at H
                have c19b0 : (t7 == t6) = true := beq_iff_eq.mpr c19
                have c19b1 : (t7 != t6) = false := bne_eq_false_iff_eq.mpr c19
                clear c19
                replace H := Option.bind_eq_some_iff.mp H
                obtain ⟨t8, A200, H⟩ := H
                replace H : (some (!t8)) = some r := H
                have A20 := Aside0.mk A200
                clear A200
                obtain rfl := Option.some.inj H
                go_wp2_with (first | (go_at_call 8; (with_reducible refine (sleuthlaw0_Num.calls t2 t7 _ A17.out).mono ?_); rintro e w' ⟨rfl, ⟨nd, rfl⟩⟩; (try first | exact ⟨rfl, _, World.drewN_drewN _ _ _⟩ | exact ⟨rfl, _, Eq.trans (World.drewN_drewN _ _ _) (congrArg (World.drewN _) (Nat.add_assoc _ _ _))⟩)) | (go_at_call 8; (with_reducible refine (sleuthlaw0_Num.calls t3 t6 _ A18.out).mono ?_); rintro e w' ⟨rfl, ⟨nd, rfl⟩⟩; (try first | exact ⟨rfl, _, World.drewN_drewN _ _ _⟩ | exact ⟨rfl, _, Eq.trans (World.drewN_drewN _ _ _) (congrArg (World.drewN _) (Nat.add_assoc _ _ _))⟩)) | (go_at_call 9; (with_reducible refine (sleuthref12_TrailMay.calls kj9 _ _ l0 t8 _ ?s1 ?s2 A20.out).mono ?_); (case s1 => repeat (first | exact (Kd.C_below HR0.out hB_) | (with_reducible refine Kd.C_alloc ?_ _) | (with_reducible refine Kd.C_drewN ?_ _) | (with_reducible refine Kd.C_drew ?_))); (case s2 => exact HC0.out); rintro e w2 ⟨rfl, hb⟩; have n0_ := Aside0.mk (Kd.R_below (hR_ O0.out) hb); have n1_ := Aside0.mk (below_step hB_ hb); clear O0 HB; have O0 := n0_; have HB := n1_; clear n0_ n1_; (try clear hb); (try clear hb2); (try clear hk); (try clear hi)))
                repeat (go_quiet (first | (go_at_call 8; (with_reducible refine (sleuthlaw0_Num.calls t2 t7 _ A17.out).mono ?_); rintro e w' ⟨rfl, ⟨nd, rfl⟩⟩; (try first | exact ⟨rfl, _, World.drewN_drewN _ _ _⟩ | exact ⟨rfl, _, Eq.trans (World.drewN_drewN _ _ _) (congrArg (World.drewN _) (Nat.add_assoc _ _ _))⟩)) | (go_at_call 8; (with_reducible refine (sleuthlaw0_Num.calls t3 t6 _ A18.out).mono ?_); rintro e w' ⟨rfl, ⟨nd, rfl⟩⟩; (try first | exact ⟨rfl, _, World.drewN_drewN _ _ _⟩ | exact ⟨rfl, _, Eq.trans (World.drewN_drewN _ _ _) (congrArg (World.drewN _) (Nat.add_assoc _ _ _))⟩)) | (go_at_call 9; (with_reducible refine (sleuthref12_TrailMay.calls kj9 _ _ l0 t8 _ ?s1 ?s2 A20.out).mono ?_); (case s1 => repeat (first | exact (Kd.C_below HR0.out hB_) | (with_reducible refine Kd.C_alloc ?_ _) | (with_reducible refine Kd.C_drewN ?_ _) | (with_reducible refine Kd.C_drew ?_))); (case s2 => exact HC0.out); rintro e w2 ⟨rfl, hb⟩; have n0_ := Aside0.mk (Kd.R_below (hR_ O0.out) hb); have n1_ := Aside0.mk (below_step hB_ hb); clear O0 HB; have O0 := n0_; have HB := n1_; clear n0_ n1_; (try clear hb); (try clear hb2); (try clear hk); (try clear hi))); try go_wp2_with (first | (go_at_call 8; (with_reducible refine (sleuthlaw0_Num.calls t2 t7 _ A17.out).mono ?_); rintro e w' ⟨rfl, ⟨nd, rfl⟩⟩; (try first | exact ⟨rfl, _, World.drewN_drewN _ _ _⟩ | exact ⟨rfl, _, Eq.trans (World.drewN_drewN _ _ _) (congrArg (World.drewN _) (Nat.add_assoc _ _ _))⟩)) | (go_at_call 8; (with_reducible refine (sleuthlaw0_Num.calls t3 t6 _ A18.out).mono ?_); rintro e w' ⟨rfl, ⟨nd, rfl⟩⟩; (try first | exact ⟨rfl, _, World.drewN_drewN _ _ _⟩ | exact ⟨rfl, _, Eq.trans (World.drewN_drewN _ _ _) (congrArg (World.drewN _) (Nat.add_assoc _ _ _))⟩)) | (go_at_call 9; (with_reducible refine (sleuthref12_TrailMay.calls kj9 _ _ l0 t8 _ ?s1 ?s2 A20.out).mono ?_); (case s1 => repeat (first | exact (Kd.C_below HR0.out hB_) | (with_reducible refine Kd.C_alloc ?_ _) | (with_reducible refine Kd.C_drewN ?_ _) | (with_reducible refine Kd.C_drew ?_))); (case s2 => exact HC0.out); rintro e w2 ⟨rfl, hb⟩; have n0_ := Aside0.mk (Kd.R_below (hR_ O0.out) hb); have n1_ := Aside0.mk (below_step hB_ hb); clear O0 HB; have O0 := n0_; have HB := n1_; clear n0_ n1_; (try clear hb); (try clear hb2); (try clear hk); (try clear hi))))
                go_ret
                exact ⟨hV_, hC_⟩
              replace c16 := Bool.eq_false_iff.mpr c16
              subst c16
              have H1 : (sleuthlaw13_TreeSums.l1 kj9 l0 x1 t1 t0 1 0) = some r := by rw [if_neg (show ¬ (false = true) by decide)] at H; exact H
              clear H
              have H := H1
              clear H1
              have H' := Aside0.mk H
              clear H
              go_wp2
              repeat (go_quiet (fail); try go_wp2)
              go_loopg [8, 9] kj9 (fun kq v8 v9 w' => ∃ (x2 : Int) (x0 : Int), v8 = .int .i64 x2 ∧ v9 = .int .i64 x0 ∧ Aside0 (sleuthlaw13_TreeSums.l1 kq l0 x1 t1 t0 x2 x0 = some r) ∧ Aside0 (kq ≤ kj9) ∧ Aside0 (Kd.R (Kd.int .i64) 3 w' w.heap.size (fun _ => True) v0 t0) ∧ Aside0 (Below w.heap.size w w'))
              case atStart => exact ⟨(1), (0), hW_, hW_, H', ⟨Nat.le_refl _⟩, ⟨hR_ O0.out⟩, ⟨hC_⟩⟩
              case round =>
                clear H'
                try clear c1
                try clear p2
                try clear c3
                try clear c6
                try clear c6b0
                try clear c7
                try clear c14
                try clear c14b0
                try clear c14b1
                try clear c16
                try clear c19
                try clear c19b0
                try clear c19b1
                try clear p2
                obtain ⟨x2, x0, rfl, rfl, HA, HK4, O0, HB⟩ := hrel
                cases gk with
                | zero => exact absurd HA.out (by simp [sleuthlaw13_TreeSums.l1])
                | succ k4 =>
                  have H := HA.out
                  clear HA
                  simp only [sleuthlaw13_TreeSums.l1] at H
                  by_cases c22 : x0 < (t0.length : Int)
                  case neg =>
                    rw [if_neg c22] at H
                    have c22b0 : decide (x0 < (t0.length : Int)) = false := decide_eq_false c22
                    clear c22
                    by_cases c43 : t1 = x2
                    case neg =>
                      rw [if_neg c43] at H
                      have c43b0 : (t1 == x2) = false := beq_eq_false_iff_ne.mpr c43
                      have c43b1 : (t1 != x2) = true := bne_iff_ne.mpr c43
                      cases H
                    rw [if_pos c43] at H
                    have c43b0 : (t1 == x2) = true := beq_iff_eq.mpr c43
                    have c43b1 : (t1 != x2) = false := bne_eq_false_iff_eq.mpr c43
                    clear c43
                    by_cases c44 : x1 = 0
                    case neg =>
                      rw [if_neg c44] at H
                      have c44b0 : (x1 == 0) = false := beq_eq_false_iff_ne.mpr c44
                      have c44b1 : (x1 != 0) = true := bne_iff_ne.mpr c44
                      have H' := Aside0.mk H
                      clear H
                      obtain ⟨a0, o0, e0⟩ := Kd.R_slice O0.out
                      subst e0
                      go_wp2
                      repeat (go_quiet (fail); try go_wp2)
                      go_roundg k4
                      case measure => have := HK1.out; have := HJ4.out; have := HJ9.out; have := HK4.out; omega
                      case rel => exact ⟨(wrap64 (x1 + 1)), hW_, H', ⟨by have := HK1.out; have := HJ4.out; have := HJ9.out; have := HK4.out; omega⟩, ⟨hC_⟩⟩
                    rw [if_pos c44] at H
                    have c44b0 : (x1 == 0) = true := beq_iff_eq.mpr c44
                    have c44b1 : (x1 != 0) = false := bne_eq_false_iff_eq.mpr c44
                    clear c44
                    by_cases c45 : t1 = (l0.length : Int)
                    case neg =>
                      rw [if_neg c45] at H
                      have c45b0 : (t1 == (l0.length : Int)) = false := beq_eq_false_iff_ne.mpr c45
                      have c45b1 : (t1 != (l0.length : Int)) = true := bne_iff_ne.mpr c45
                      cases H
                    rw [if_pos c45] at H
                    have c45b0 : (t1 == (l0.length : Int)) = true := beq_iff_eq.mpr c45
                    have c45b1 : (t1 != (l0.length : Int)) = false := bne_eq_false_iff_eq.mpr c45
                    clear c45
                    have H' := Aside0.mk H
                    clear H
                    obtain ⟨a1, o1, e1⟩ := Kd.R_slice O0.out
                    subst e1
                    go_wp2
                    repeat (go_quiet (fail); try go_wp2)
                    go_roundg k4
                    case measure => have := HK1.out; have := HJ4.out; have := HJ9.out; have := HK4.out; omega
                    case rel => exact ⟨(wrap64 (x1 + 1)), hW_, H', ⟨by have := HK1.out; have := HJ4.out; have := HJ9.out; have := HK4.out; omega⟩, ⟨hC_⟩⟩
                  rw [if_pos c22] at H
                  have c22b0 : decide (x0 < (t0.length : Int)) = true := decide_eq_true c22
                  clear c22
                  replace H := ifI_ H; obtain ⟨c23, H⟩ := H
                  have c23b0 : decide (0 ≤ x0) = true := decide_eq_true c23
                  clear c23
                  replace H := Option.bind_eq_some_iff.mp H
                  obtain ⟨⟨t10, t11⟩, A240, H⟩ := H
                  replace H : ((sleuthlaw0_Num.f t11).bind fun t9 => (if t9 = 0 then (if (rd t0 x0) ≤ x1 then (none) else (if x0 > 0 then (if 0 ≤ (wrap64 (x0 - 1)) then (if (wrap64 (x0 - 1)) < (t0.length : Int) then (if (rd t0 (wrap64 (x0 - 1))) ≥ (rd t0 x0) then (none) else (sleuthlaw13_TreeSums.l1 k4 l0 x1 t1 t0 (wrap64 (x2 + t10)) (wrap64 (x0 + 1)))) else (none)) else (none)) else (sleuthlaw13_TreeSums.l1 k4 l0 x1 t1 t0 (wrap64 (x2 + t10)) (wrap64 (x0 + 1))))) else (none))) = some r := H
                  have A24 := Aside0.mk A240
                  clear A240
                  replace H := Option.bind_eq_some_iff.mp H
                  obtain ⟨t9, A250, H⟩ := H
                  replace H : (if t9 = 0 then (if (rd t0 x0) ≤ x1 then (none) else (if x0 > 0 then (if 0 ≤ (wrap64 (x0 - 1)) then (if (wrap64 (x0 - 1)) < (t0.length : Int) then (if (rd t0 (wrap64 (x0 - 1))) ≥ (rd t0 x0) then (none) else (sleuthlaw13_TreeSums.l1 k4 l0 x1 t1 t0 (wrap64 (x2 + t10)) (wrap64 (x0 + 1)))) else (none)) else (none)) else (sleuthlaw13_TreeSums.l1 k4 l0 x1 t1 t0 (wrap64 (x2 + t10)) (wrap64 (x0 + 1))))) else (none)) = some r := H
                  have A25 := Aside0.mk A250
                  clear A250
                  by_cases c26 : t9 = 0
                  case neg =>
                    rw [if_neg c26] at H
                    have c26b0 : (t9 == 0) = false := beq_eq_false_iff_ne.mpr c26
                    have c26b1 : (t9 != 0) = true := bne_iff_ne.mpr c26
                    cases H
                  rw [if_pos c26] at H
                  have c26b0 : (t9 == 0) = true := beq_iff_eq.mpr c26
                  have c26b1 : (t9 != 0) = false := bne_eq_false_iff_eq.mpr c26
                  clear c26
                  by_cases c27 : (rd t0 x0) ≤ x1
                  case pos =>
                    rw [if_pos c27] at H
                    have c27b0 : decide ((rd t0 x0) ≤ x1) = true := decide_eq_true c27
                    clear c27
                    cases H
                  rw [if_neg c27] at H
                  have c27b0 : decide ((rd t0 x0) ≤ x1) = false := decide_eq_false c27
                  clear c27
                  by_cases c30 : x0 > 0
                  case neg =>
                    rw [if_neg c30] at H
                    have c30b0 : decide (0 < x0) = false := decide_eq_false c30
                    clear c30
                    have H' := Aside0.mk H
                    clear H
                    obtain ⟨a2, o2, e2⟩ := Kd.R_slice O0.out
                    subst e2
                    have p313 : 0 ≤ (x0 : Int) := of_decide_eq_true hA_
                    have q313 : x0 < (t0.length : Int) := of_decide_eq_true hA_
                    obtain ⟨d0, e313, h0⟩ := Kd.at_int (Kd.R_reads' O0.out).2.2 x0 p313 q313
                    cases e313
                    replace p313 := eq_true p313
                    replace q313 := eq_true q313
                    go_upto_region 15 with (first | (go_at_call 6; (with_reducible refine (tree_Size.calls k4 _ _ l0 (rd t0 x0) t10 t11 _ ?s1 ?s2 A24.out hG_).mono ?_); (case s1 => exact cB_ HR0.out); (case s2 => exact HC0.out); rintro e w3 ⟨rfl, hb⟩; have n0_ := Aside0.mk (Kd.R_below (hR_ O0.out) hb); have n1_ := Aside0.mk (below_step hB_ hb); clear O0 HB; have O0 := n0_; have HB := n1_; clear n0_ n1_; (try clear hb); (try clear hb2); (try clear hk); (try clear hi)))
                    have p317 : 0 ≤ (x0 : Int) := of_decide_eq_true hA_
                    have q317 : x0 < (t0.length : Int) := of_decide_eq_true hA_
                    obtain ⟨d1, e317, h1⟩ := Kd.at_int (Kd.R_reads' O0.out).2.2 x0 p317 q317
                    obtain rfl : d0 = d1 := (by injection e317)
                    replace p317 := eq_true p317
                    replace q317 := eq_true q317
                    go_quiet ((go_at_call 8; (with_reducible refine (sleuthlaw0_Num.calls t11 t9 _ A25.out).mono ?_); rintro e w' ⟨rfl, ⟨nd, rfl⟩⟩; (try first | exact ⟨rfl, _, World.drewN_drewN _ _ _⟩ | exact ⟨rfl, _, Eq.trans (World.drewN_drewN _ _ _) (congrArg (World.drewN _) (Nat.add_assoc _ _ _))⟩)))
                    go_wp2
                    go_roundg k4
                    case measure => have := HK1.out; have := HJ4.out; have := HJ9.out; have := HK4.out; omega
                    case rel => exact ⟨(wrap64 (x2 + t10)), (wrap64 (x0 + 1)), hW_, hW_, H', ⟨by have := HK1.out; have := HJ4.out; have := HJ9.out; have := HK4.out; omega⟩, ⟨hR_ O0.out⟩, ⟨hC_⟩⟩
                  rw [if_pos c30] at H
                  have c30b0 : decide (0 < x0) = true := decide_eq_true c30
                  clear c30
                  obtain ⟨ji31, hji31⟩ : ∃ j_ : Int, (wrap64 (x0 - 1)) = j_ := ⟨_, rfl⟩
                  replace H : (if 0 ≤ (ji31) then (if (ji31) < (t0.length : Int) then (if (rd t0 (ji31)) ≥ (rd t0 x0) then (none) else (sleuthlaw13_TreeSums.l1 k4 l0 x1 t1 t0 (wrap64 (x2 + t10)) (wrap64 (x0 + 1)))) else (none)) else (none)) = some r := by first | (rw [hji31] at H; exact H) | (simp only [hji31] at H ⊢; exact H)
                  (try rw [hji31] at A24)
                  (try rw [hji31] at A25)
                  have hji31w : (IntKind.i64.wrap (x0 - 1)) = ji31 := (i64_w _).trans hji31
                  replace H := ifI_ H; obtain ⟨c32, H⟩ := H
                  have c32b0 : decide (0 ≤ (ji31)) = true := decide_eq_true c32
                  clear c32
                  replace H := ifI_ H; obtain ⟨c33, H⟩ := H
                  have c33b0 : decide ((ji31) < (t0.length : Int)) = true := decide_eq_true c33
                  clear c33
                  by_cases c34 : (rd t0 (ji31)) ≥ (rd t0 x0)
                  case pos =>
                    rw [if_pos c34] at H
                    have c34b0 : decide ((rd t0 x0) ≤ (rd t0 (ji31))) = true := decide_eq_true c34
                    clear c34
                    cases H
                  rw [if_neg c34] at H
                  have c34b0 : decide ((rd t0 x0) ≤ (rd t0 (ji31))) = false := decide_eq_false c34
                  clear c34
                  have H' := Aside0.mk H
                  clear H
                  obtain ⟨a3, o3, e3⟩ := Kd.R_slice O0.out
                  subst e3
                  have p313 : 0 ≤ (x0 : Int) := of_decide_eq_true hA_
                  have q313 : x0 < (t0.length : Int) := of_decide_eq_true hA_
                  obtain ⟨d0, e313, h0⟩ := Kd.at_int (Kd.R_reads' O0.out).2.2 x0 p313 q313
                  cases e313
                  replace p313 := eq_true p313
                  replace q313 := eq_true q313
                  go_upto_region 15 with (first | (go_at_call 6; (with_reducible refine (tree_Size.calls k4 _ _ l0 (rd t0 x0) t10 t11 _ ?s1 ?s2 A24.out hG_).mono ?_); (case s1 => exact cB_ HR0.out); (case s2 => exact HC0.out); rintro e w5 ⟨rfl, hb⟩; have n0_ := Aside0.mk (Kd.R_below (hR_ O0.out) hb); have n1_ := Aside0.mk (below_step hB_ hb); clear O0 HB; have O0 := n0_; have HB := n1_; clear n0_ n1_; (try clear hb); (try clear hb2); (try clear hk); (try clear hi)))
                  have p317 : 0 ≤ (x0 : Int) := of_decide_eq_true hA_
                  have q317 : x0 < (t0.length : Int) := of_decide_eq_true hA_
                  obtain ⟨d1, e317, h1⟩ := Kd.at_int (Kd.R_reads' O0.out).2.2 x0 p317 q317
                  obtain rfl : d0 = d1 := (by injection e317)
                  replace p317 := eq_true p317
                  replace q317 := eq_true q317
                  have p318 : 0 ≤ ((ji31) : Int) := of_decide_eq_true hA_
                  have q318 : (ji31) < (t0.length : Int) := of_decide_eq_true hA_
                  obtain ⟨d2, e318, h2⟩ := Kd.at_int (Kd.R_reads' O0.out).2.2 (ji31) p318 q318
                  obtain rfl : d0 = d2 := (by injection e318)
                  replace p318 := eq_true p318
                  replace q318 := eq_true q318
                  have p319 : 0 ≤ (x0 : Int) := of_decide_eq_true hA_
                  have q319 : x0 < (t0.length : Int) := of_decide_eq_true hA_
                  obtain ⟨d3, e319, h3⟩ := Kd.at_int (Kd.R_reads' O0.out).2.2 x0 p319 q319
                  obtain rfl : d0 = d3 := (by injection e319)
                  replace p319 := eq_true p319
                  replace q319 := eq_true q319
                  go_quiet ((go_at_call 8; (with_reducible refine (sleuthlaw0_Num.calls t11 t9 _ A25.out).mono ?_); rintro e w' ⟨rfl, ⟨nd, rfl⟩⟩; (try first | exact ⟨rfl, _, World.drewN_drewN _ _ _⟩ | exact ⟨rfl, _, Eq.trans (World.drewN_drewN _ _ _) (congrArg (World.drewN _) (Nat.add_assoc _ _ _))⟩)))
                  go_wp2
                  go_roundg k4
                  case measure => have := HK1.out; have := HJ4.out; have := HJ9.out; have := HK4.out; omega
                  case rel => exact ⟨(wrap64 (x2 + t10)), (wrap64 (x0 + 1)), hW_, hW_, H', ⟨by have := HK1.out; have := HJ4.out; have := HJ9.out; have := HK4.out; omega⟩, ⟨hR_ O0.out⟩, ⟨hC_⟩⟩
end Go.Proofs.YtjodjfbhaojhjaaDoor.G
