/- Parts of this proof, one behind the other: G34, G35, G36. -/
import Derived.Test.YtbnljapgnfmmoaaGreatDoorU2
import Derived.Test.YtbnljapgnfmmoaaGreatDoorG0
import Derived.Test.YtbnljapgnfmmoaaGreatDoorU7
section
-- Laid by the session's own driver gp.py over the kit's printer. Not trusted: Lean checks it.
namespace Go.Proofs.YtbnljapgnfmmoaaGreatDoor.G
open Go.RowKit Go.Proofs.YtbnljapgnfmmoaaGreatDoorW.PrintWords Go.Proofs.YtbnljapgnfmmoaaGreatDoorW.PrintLast Go.Proofs.YtbnljapgnfmmoaaGreatDoorW.PrintMore
set_option maxHeartbeats 8000000
set_option maxRecDepth 100000
attribute [local go_sem] max2_int min2_int max_two min_two max_three min_three max_four min_four   -- for this text's walks alone
set_option linter.unusedVariables false
set_option linter.unusedSimpArgs false

attribute [local go_sem high] eqA53
def sleuthlaw0_SameAnswers.l0 : Nat → List (S53) → List (S53) → Int → Option (Bool)
 | 0, _, _, _ => none
 | k + 1, x0, x1, x5 => if x5 < (x0.length : Int) then (if 0 ≤ x5 then (if x5 < (x1.length : Int) then (if (!(((rd_T53 x0 x5).f0) == ((rd_T53 x1 x5).f0)) || (!(((rd_T53 x0 x5).f1) == ((rd_T53 x1 x5).f1)))) = true then (some false) else (sleuthlaw0_SameAnswers.l0 k x0 x1 (wrap64 (x5 + 1)))) else (none)) else (none)) else (some true)
def sleuthlaw0_SameAnswers.f (k : Nat) (l0 : List (S53)) (l1 : List (S53)) : Option (Bool) := if (l0.length : Int) = (l1.length : Int) then (sleuthlaw0_SameAnswers.l0 k l0 l1 0) else (some false)
theorem sleuthlaw0_SameAnswers.mono_l : ∀ k, (∀ y0 y1 y2, LeO (sleuthlaw0_SameAnswers.l0 k y0 y1 y2) (sleuthlaw0_SameAnswers.l0 (k + 1) y0 y1 y2))
 | 0 => fun _ _ _ r h => by simp [sleuthlaw0_SameAnswers.l0] at h
 | k + 1 => by
  have ih0 := sleuthlaw0_SameAnswers.mono_l k
  · intro y0 y1 y2
    unfold sleuthlaw0_SameAnswers.l0
    repeat' first
    | (with_reducible exact ih0 _ _ _)
    | (with_reducible exact LeO.refl _)
    | (with_reducible exact LeO.none _)
    | (with_reducible refine LeO.ite ?_ ?_)
    | (with_reducible refine LeO.bind ?_ (fun _ => ?_))
    | exact ih0 _ _ _
    | exact LeO.none _
    | refine LeO.ite ?_ ?_
    | refine LeO.bind ?_ (fun _ => ?_)
theorem sleuthlaw0_SameAnswers.mono : ∀ a0 a1 k, LeO (sleuthlaw0_SameAnswers.f k a0 a1) (sleuthlaw0_SameAnswers.f (k + 1) a0 a1) := by
 intro a0 a1 k
 have ih0 := sleuthlaw0_SameAnswers.mono_l k
 unfold sleuthlaw0_SameAnswers.f
 repeat' first
  | (with_reducible exact ih0 _ _ _)
  | (with_reducible exact LeO.refl _)
  | (with_reducible exact LeO.none _)
  | (with_reducible refine LeO.ite ?_ ?_)
  | (with_reducible refine LeO.bind ?_ (fun _ => ?_))
  | exact ih0 _ _ _
  | exact LeO.none _
  | refine LeO.ite ?_ ?_
  | refine LeO.bind ?_ (fun _ => ?_)
theorem sleuthlaw0_SameAnswers.calls (k : Nat) (A0 : Option Addr) (c0 : Nat) (l0 : List (S53)) (A1 : Option Addr) (c1 : Nat) (l1 : List (S53)) (r : Bool) (w : World) (hr0 : Kd.C k53 w A0 l0.length l0) (hc0 : l0.length ≤ c0) (hr1 : Kd.C k53 w A1 l1.length l1) (hc1 : l1.length ≤ c1) (h : sleuthlaw0_SameAnswers.f k l0 l1 = some r) :
 Calls Tryz.prog 29 #[.slice A0 l0.length c0, .slice A1 l1.length c1] w fun e w' => e = .returned (.bool r) ∧ Drawn0 w w' := by
 have hu53 := Tryz.underlying53
 have HR0 := a_ hr0
 have HC0 := a_ hc0
 clear hr0 hc0
 have HR1 := a_ hr1
 have HC1 := a_ hc1
 clear hr1 hc1
 have H := h; unfold sleuthlaw0_SameAnswers.f at H
 clear h
 by_cases c3 : (l0.length : Int) = (l1.length : Int)
 case neg =>
  rw [if_neg c3] at H
  have c3b0 : ((l0.length : Int) == (l1.length : Int)) = false := beq_eq_false_iff_ne.mpr c3
  have c3b1 : ((l0.length : Int) != (l1.length : Int)) = true := bne_iff_ne.mpr c3
  have c3b2 : (l0.length == l1.length) = false := by first | simpa using c3 | (simp at c3 ⊢; omega)
  obtain rfl := Option.some.inj H
  go_enter Tryz.func29, Tryz.ntmps29
  go_wp2
  repeat (go_quiet (fail); try go_wp2)
  go_ret
  exact ⟨by first | rfl | (simp; done) | (simp [*]; done), by repeat (first | exact Drawn0.refl _ | apply Drawn0.step)⟩

 rw [if_pos c3] at H
 have c3b0 : ((l0.length : Int) == (l1.length : Int)) = true := beq_iff_eq.mpr c3
 have c3b1 : ((l0.length : Int) != (l1.length : Int)) = false := bne_eq_false_iff_eq.mpr c3
 have c3b2 : (l0.length == l1.length) = true := by first | simpa using c3 | (simp at c3 ⊢; omega)
 clear c3
 have H' := a_ H
 clear H
 go_enter Tryz.func29, Tryz.ntmps29
 go_wp2
 repeat (go_quiet (fail); try go_wp2)
 go_loopg [5] k (fun kq v5 w' => ∃ (x5_1 : Int), v5 = .int .i64 x5_1 ∧ Aside0 (sleuthlaw0_SameAnswers.l0 kq l0 l1 x5_1 = some r) ∧ Aside0 (kq ≤ k) ∧ Drawn0 w w')
 case atStart => exact ⟨(0), hW_, H', ⟨Nat.le_refl _⟩, by repeat (first | exact Drawn0.refl _ | apply Drawn0.step)⟩
 case round =>
  clear H'
  try clear c1
  try clear c2
  try clear p2
  try clear c3
  try clear c3b0
  try clear c3b1
  try clear c3b2
  obtain ⟨x5_1, rfl, HA, HK1, ⟨m1, rfl⟩⟩ := hrel
  cases gk with
  | zero => exact absurd HA.out (by simp [sleuthlaw0_SameAnswers.l0])
  | succ k1 =>
   have H := HA.out
   clear HA
   simp only [sleuthlaw0_SameAnswers.l0] at H
   by_cases c4 : x5_1 < (l0.length : Int)
   case neg =>
    rw [if_neg c4] at H
    have c4b0 : decide (x5_1 < (l0.length : Int)) = false := decide_eq_false c4
    clear c4
    obtain rfl := Option.some.inj H
    go_wp2
    repeat (go_quiet (fail); try go_wp2)
    go_ret
    exact ⟨by first | rfl | (simp; done) | (simp [*]; done), by repeat (first | exact Drawn0.refl _ | apply Drawn0.step)⟩
   rw [if_pos c4] at H
   have c4b0 : decide (x5_1 < (l0.length : Int)) = true := decide_eq_true c4
   clear c4
   replace H := ifI_ H; obtain ⟨c5, H⟩ := H
   have c5b0 : decide (0 ≤ x5_1) = true := decide_eq_true c5
   clear c5
   replace H := ifI_ H; obtain ⟨c6, H⟩ := H
   have c6b0 : decide (x5_1 < (l1.length : Int)) = true := decide_eq_true c6
   clear c6
   by_cases c7 : (!(((rd_T53 l0 x5_1).f0) == ((rd_T53 l1 x5_1).f0)) || (!(((rd_T53 l0 x5_1).f1) == ((rd_T53 l1 x5_1).f1)))) = true
   case pos =>
    rw [if_pos c7] at H
    have c7b0 : (!(((rd_T53 l0 x5_1).f0) == ((rd_T53 l1 x5_1).f0)) || (!(((rd_T53 l0 x5_1).f1) == ((rd_T53 l1 x5_1).f1)))) = true := c7
    clear c7
    obtain rfl := Option.some.inj H
    have p222 : 0 ≤ (x5_1 : Int) := of_decide_eq_true hA_
    have q222 : x5_1 < (l0.length : Int) := of_decide_eq_true hA_
    obtain ⟨ad222, e222, hx222_0, hx222_1⟩ := at_T53 HR0.out x5_1 p222 q222
    cases e222
    replace p222 := eq_true p222
    replace q222 := eq_true q222
    have p223 : 0 ≤ (x5_1 : Int) := of_decide_eq_true hA_
    have q223 : x5_1 < (l1.length : Int) := of_decide_eq_true hA_
    obtain ⟨ad223, e223, hx223_0, hx223_1⟩ := at_T53 HR1.out x5_1 p223 q223
    cases e223
    replace p223 := eq_true p223
    replace q223 := eq_true q223
    go_wp2
    repeat (go_quiet (fail); try go_wp2)
    go_ret
    exact ⟨by first | rfl | (simp; done) | (simp [*]; done), by repeat (first | exact Drawn0.refl _ | apply Drawn0.step)⟩
   rw [if_neg c7] at H
   have c7b0 : (!(((rd_T53 l0 x5_1).f0) == ((rd_T53 l1 x5_1).f0)) || (!(((rd_T53 l0 x5_1).f1) == ((rd_T53 l1 x5_1).f1)))) = false := by simpa using c7
   clear c7
   have H' := a_ H
   clear H
   have p222 : 0 ≤ (x5_1 : Int) := of_decide_eq_true hA_
   have q222 : x5_1 < (l0.length : Int) := of_decide_eq_true hA_
   obtain ⟨ad222, e222, hx222_0, hx222_1⟩ := at_T53 HR0.out x5_1 p222 q222
   cases e222
   replace p222 := eq_true p222
   replace q222 := eq_true q222
   have p223 : 0 ≤ (x5_1 : Int) := of_decide_eq_true hA_
   have q223 : x5_1 < (l1.length : Int) := of_decide_eq_true hA_
   obtain ⟨ad223, e223, hx223_0, hx223_1⟩ := at_T53 HR1.out x5_1 p223 q223
   cases e223
   replace p223 := eq_true p223
   replace q223 := eq_true q223
   go_wp2
   repeat (go_quiet (fail); try go_wp2)
   go_roundg k1
   case measure => have := HK1.out; omega
   case rel => exact ⟨(wrap64 (x5_1 + 1)), hW_, H', ⟨by have := HK1.out; omega⟩, by repeat (first | exact Drawn0.refl _ | apply Drawn0.step)⟩
def sleuthlaw0_SameSession.f (k : Nat) (l0_0 : List (S66)) (a0_1 : Int) (l0_2 : List (S53)) (l1_0 : List (S66)) (a1_1 : Int) (l1_2 : List (S53)) : Option (Bool) := (sleuthlaw0_SameNodes.f k l0_0 l1_0).bind fun t226 => (if t226 = true then (if a0_1 = a1_1 then ((sleuthlaw0_SameAnswers.f k l0_2 l1_2).bind fun t227 => (some t227)) else (some false)) else (some false))
theorem sleuthlaw0_SameSession.mono : ∀ a0 a1 a2 a3 a4 a5 k, LeO (sleuthlaw0_SameSession.f k a0 a1 a2 a3 a4 a5) (sleuthlaw0_SameSession.f (k + 1) a0 a1 a2 a3 a4 a5) := by
 intro a0 a1 a2 a3 a4 a5 k
 unfold sleuthlaw0_SameSession.f
 repeat' first
  | (with_reducible exact sleuthlaw0_SameAnswers.mono _ _ _)
  | (with_reducible exact sleuthlaw0_SameNodes.mono _ _ _)
  | (with_reducible exact LeO.refl _)
  | (with_reducible exact LeO.none _)
  | (with_reducible refine LeO.ite ?_ ?_)
  | (with_reducible refine LeO.bind ?_ (fun _ => ?_))
  | exact sleuthlaw0_SameAnswers.mono _ _ _
  | exact sleuthlaw0_SameNodes.mono _ _ _
  | exact LeO.none _
  | refine LeO.ite ?_ ?_
  | refine LeO.bind ?_ (fun _ => ?_)
theorem sleuthlaw0_SameSession.calls (k : Nat) (A0_0 : Option Addr) (c0_0 : Nat) (l0_0 : List (S66)) (a0_1 : Int) (A0_2 : Option Addr) (c0_2 : Nat) (l0_2 : List (S53)) (A1_0 : Option Addr) (c1_0 : Nat) (l1_0 : List (S66)) (a1_1 : Int) (A1_2 : Option Addr) (c1_2 : Nat) (l1_2 : List (S53)) (r : Bool) (w : World) (hr0_0 : Kd.C k66 w A0_0 l0_0.length l0_0) (hc0_0 : l0_0.length ≤ c0_0) (hr0_2 : Kd.C k53 w A0_2 l0_2.length l0_2) (hc0_2 : l0_2.length ≤ c0_2) (hr1_0 : Kd.C k66 w A1_0 l1_0.length l1_0) (hc1_0 : l1_0.length ≤ c1_0) (hr1_2 : Kd.C k53 w A1_2 l1_2.length l1_2) (hc1_2 : l1_2.length ≤ c1_2) (h : sleuthlaw0_SameSession.f k l0_0 a0_1 l0_2 l1_0 a1_1 l1_2 = some r) :
 Calls Tryz.prog 12 #[.agg #[.slice A0_0 l0_0.length c0_0, .int .i64 a0_1, .slice A0_2 l0_2.length c0_2], .agg #[.slice A1_0 l1_0.length c1_0, .int .i64 a1_1, .slice A1_2 l1_2.length c1_2]] w fun e w' => e = .returned (.bool r) ∧ Below w.heap.size w w' := by
 have hu25 := Tryz.underlying25
 have HR0_0 := a_ hr0_0
 have HC0_0 := a_ hc0_0
 clear hr0_0 hc0_0
 have HR0_2 := a_ hr0_2
 have HC0_2 := a_ hc0_2
 clear hr0_2 hc0_2
 have HR1_0 := a_ hr1_0
 have HC1_0 := a_ hc1_0
 clear hr1_0 hc1_0
 have HR1_2 := a_ hr1_2
 have HC1_2 := a_ hc1_2
 clear hr1_2 hc1_2
 have HB := a_ (Below.refl w.heap.size w)
 have H := h; unfold sleuthlaw0_SameSession.f at H
 clear h
 replace H := Option.bind_eq_some_iff.mp H
 obtain ⟨t226, A30, H⟩ := H
 try dsimp only at H
 have A3 := a_ A30
 clear A30
 by_cases c4 : t226 = true
 case neg =>
  replace c4 := Bool.eq_false_iff.mpr c4
  subst c4
  rw [if_neg (show ¬ (false = true) by decide)] at H
  obtain rfl := Option.some.inj H
  go_enter Tryz.func12, Tryz.ntmps12
  go_wp2_with (first | ((with_reducible refine gate_dst (N := 2) rfl ?_); refine boxE_ 2 #[.slice A0_0 l0_0.length c0_0, .int .i64 a0_1, .slice A0_2 l0_2.length c0_2] 25 ?_; intro gb224 hg w23 hbox hb; have BK224 := a_ (hbox); have GW224 := a_ ((gE_ hg : w.heap.size ≤ gb224)); have GE224 := a_ ((gE_ hg : w.heap.size ≤ gb224)); replace HB := a_ (below_step hB_ hb); clear hb hbox hg) | ((with_reducible refine gate_dst (N := 3) rfl ?_); refine boxE_ 3 #[.slice A1_0 l1_0.length c1_0, .int .i64 a1_1, .slice A1_2 l1_2.length c1_2] 25 ?_; intro gb225 hg w24 hbox hb; have BK225 := a_ (hbox); have GW225 := a_ ((gE_ hg : w.heap.size ≤ gb225)); have GE225 := a_ ((gE_ hg : w.heap.size ≤ gb225)); replace HB := a_ (below_step hC_ hb); have NB224_225 := a_ ((bL_ BK224.out hg : gb224 ≠ gb225)); have NB225_224 := a_ ((bG_ BK224.out hg : gb225 ≠ gb224)); replace BK224 := a_ (bB_ BK224.out hb); clear hb hbox hg; have hnb25 := NB224_225.out; have hnc25 := NB225_224.out; obtain ⟨hcz26_0, hcz26_1, hcz26_2, hfz26_0, hfz26_1, hfz26_2⟩ := bx3_ BK224.out; obtain ⟨hcz27_0, hcz27_1, hcz27_2, hfz27_0, hfz27_1, hfz27_2⟩ := bx3_ BK225.out) | ((with_reducible refine gate_callee (f := 28) rfl ?_); refine goesL_ (some 9) rfl rfl Tryz.func28 (by kernel_rfl) rfl #[.slice A0_0 l0_0.length c0_0, .slice A1_0 l1_0.length c1_0] rfl hL_ ?_; (with_reducible refine (sleuthlaw0_SameNodes.calls k _ _ l0_0 _ _ l1_0 false _ ?side1 ?side2 ?side3 ?side4 A3.out).mono ?_); (case side1 => exact cB_ HR0_0.out); (case side2 => exact HC0_0.out); (case side3 => exact cB_ HR1_0.out); (case side4 => exact HC1_0.out); rintro e w28 ⟨rfl, hb⟩; refine ⟨_, rfl, ?_⟩; replace BK224 := a_ (bB_ BK224.out hb); replace BK225 := a_ (bB_ BK225.out hb); replace HB := a_ (below_step hC_ hb); (try clear hb); (try clear hb2); (try clear hk); (try clear hi)))
  go_ret
  exact ⟨hV_, hC_⟩

 subst c4
 rw [if_pos rfl] at H
 by_cases c5 : a0_1 = a1_1
 case neg =>
  rw [if_neg c5] at H
  have c5b0 : (a0_1 == a1_1) = false := beq_eq_false_iff_ne.mpr c5
  have c5b1 : (a0_1 != a1_1) = true := bne_iff_ne.mpr c5
  obtain rfl := Option.some.inj H
  go_enter Tryz.func12, Tryz.ntmps12
  go_wp2_with (first | ((with_reducible refine gate_dst (N := 2) rfl ?_); refine boxE_ 2 #[.slice A0_0 l0_0.length c0_0, .int .i64 a0_1, .slice A0_2 l0_2.length c0_2] 25 ?_; intro gb224 hg w15 hbox hb; have BK224 := a_ (hbox); have GW224 := a_ ((gE_ hg : w.heap.size ≤ gb224)); have GE224 := a_ ((gE_ hg : w.heap.size ≤ gb224)); replace HB := a_ (below_step hB_ hb); clear hb hbox hg) | ((with_reducible refine gate_dst (N := 3) rfl ?_); refine boxE_ 3 #[.slice A1_0 l1_0.length c1_0, .int .i64 a1_1, .slice A1_2 l1_2.length c1_2] 25 ?_; intro gb225 hg w16 hbox hb; have BK225 := a_ (hbox); have GW225 := a_ ((gE_ hg : w.heap.size ≤ gb225)); have GE225 := a_ ((gE_ hg : w.heap.size ≤ gb225)); replace HB := a_ (below_step hC_ hb); have NB224_225 := a_ ((bL_ BK224.out hg : gb224 ≠ gb225)); have NB225_224 := a_ ((bG_ BK224.out hg : gb225 ≠ gb224)); replace BK224 := a_ (bB_ BK224.out hb); clear hb hbox hg; have hnb17 := NB224_225.out; have hnc17 := NB225_224.out; obtain ⟨hcz18_0, hcz18_1, hcz18_2, hfz18_0, hfz18_1, hfz18_2⟩ := bx3_ BK224.out; obtain ⟨hcz19_0, hcz19_1, hcz19_2, hfz19_0, hfz19_1, hfz19_2⟩ := bx3_ BK225.out) | ((with_reducible refine gate_callee (f := 28) rfl ?_); refine goesL_ (some 9) rfl rfl Tryz.func28 (by kernel_rfl) rfl #[.slice A0_0 l0_0.length c0_0, .slice A1_0 l1_0.length c1_0] rfl hL_ ?_; (with_reducible refine (sleuthlaw0_SameNodes.calls k _ _ l0_0 _ _ l1_0 true _ ?side1 ?side2 ?side3 ?side4 A3.out).mono ?_); (case side1 => exact cB_ HR0_0.out); (case side2 => exact HC0_0.out); (case side3 => exact cB_ HR1_0.out); (case side4 => exact HC1_0.out); rintro e w20 ⟨rfl, hb⟩; refine ⟨_, rfl, ?_⟩; replace BK224 := a_ (bB_ BK224.out hb); replace BK225 := a_ (bB_ BK225.out hb); replace HB := a_ (below_step hC_ hb); (try clear hb); (try clear hb2); (try clear hk); (try clear hi); obtain ⟨hcz21_0, hcz21_1, hcz21_2, hfz21_0, hfz21_1, hfz21_2⟩ := bx3_ BK224.out; obtain ⟨hcz22_0, hcz22_1, hcz22_2, hfz22_0, hfz22_1, hfz22_2⟩ := bx3_ BK225.out))
  go_ret
  exact ⟨hV_, hC_⟩
 rw [if_pos c5] at H
 have c5b0 : (a0_1 == a1_1) = true := beq_iff_eq.mpr c5
 have c5b1 : (a0_1 != a1_1) = false := bne_eq_false_iff_eq.mpr c5
 clear c5
 replace H := Option.bind_eq_some_iff.mp H
 obtain ⟨t227, A60, H⟩ := H
 try dsimp only at H
 have A6 := a_ A60
 clear A60
 obtain rfl := Option.some.inj H
 go_enter Tryz.func12, Tryz.ntmps12
 go_wp2_with (first | ((with_reducible refine gate_dst (N := 2) rfl ?_); refine boxE_ 2 #[.slice A0_0 l0_0.length c0_0, .int .i64 a0_1, .slice A0_2 l0_2.length c0_2] 25 ?_; intro gb224 hg w7 hbox hb; have BK224 := a_ (hbox); have GW224 := a_ ((gE_ hg : w.heap.size ≤ gb224)); have GE224 := a_ ((gE_ hg : w.heap.size ≤ gb224)); replace HB := a_ (below_step hB_ hb); clear hb hbox hg) | ((with_reducible refine gate_dst (N := 3) rfl ?_); refine boxE_ 3 #[.slice A1_0 l1_0.length c1_0, .int .i64 a1_1, .slice A1_2 l1_2.length c1_2] 25 ?_; intro gb225 hg w8 hbox hb; have BK225 := a_ (hbox); have GW225 := a_ ((gE_ hg : w.heap.size ≤ gb225)); have GE225 := a_ ((gE_ hg : w.heap.size ≤ gb225)); replace HB := a_ (below_step hC_ hb); have NB224_225 := a_ ((bL_ BK224.out hg : gb224 ≠ gb225)); have NB225_224 := a_ ((bG_ BK224.out hg : gb225 ≠ gb224)); replace BK224 := a_ (bB_ BK224.out hb); clear hb hbox hg; have hnb9 := NB224_225.out; have hnc9 := NB225_224.out; obtain ⟨hcz10_0, hcz10_1, hcz10_2, hfz10_0, hfz10_1, hfz10_2⟩ := bx3_ BK224.out; obtain ⟨hcz11_0, hcz11_1, hcz11_2, hfz11_0, hfz11_1, hfz11_2⟩ := bx3_ BK225.out) | ((with_reducible refine gate_callee (f := 28) rfl ?_); refine goesL_ _ rfl rfl Tryz.func28 (by kernel_rfl) rfl #[.slice A0_0 l0_0.length c0_0, .slice A1_0 l1_0.length c1_0] rfl hL_ ?_; (with_reducible refine (sleuthlaw0_SameNodes.calls k _ _ l0_0 _ _ l1_0 true _ ?side1 ?side2 ?side3 ?side4 A3.out).mono ?_); (case side1 => exact cB_ HR0_0.out); (case side2 => exact HC0_0.out); (case side3 => exact cB_ HR1_0.out); (case side4 => exact HC1_0.out); rintro e w12 ⟨rfl, hb⟩; refine ⟨_, rfl, ?_⟩; replace BK224 := a_ (bB_ BK224.out hb); replace BK225 := a_ (bB_ BK225.out hb); replace HB := a_ (below_step hC_ hb); (try clear hb); (try clear hb2); (try clear hk); (try clear hi); obtain ⟨hcz13_0, hcz13_1, hcz13_2, hfz13_0, hfz13_1, hfz13_2⟩ := bx3_ BK224.out; obtain ⟨hcz14_0, hcz14_1, hcz14_2, hfz14_0, hfz14_1, hfz14_2⟩ := bx3_ BK225.out) | (go_at_call 29; (with_reducible refine (sleuthlaw0_SameAnswers.calls k _ _ l0_2 _ _ l1_2 t227 _ ?side1 ?side2 ?side3 ?side4 A6.out).mono ?_); (case side1 => exact cB_ HR0_2.out); (case side2 => exact HC0_2.out); (case side3 => exact cB_ HR1_2.out); (case side4 => exact HC1_2.out); rintro e w' ⟨rfl, ⟨nd, rfl⟩⟩))
 go_ret
 exact ⟨hV_, hC_⟩
def sleuthlaw22_some.f  : Option ((List (S66))) := some (([(⟨0, (-1), ([] : List ByteArray), (⟨#[57]⟩ : ByteArray)⟩ : S66), (⟨1, 0, (([(⟨#[64, 55, 40, 95, 32, 52, 41]⟩ : ByteArray), (⟨#[53]⟩ : ByteArray)] : List ByteArray)), (⟨#[57]⟩ : ByteArray)⟩ : S66), (⟨2, 0, ([] : List ByteArray), (⟨#[33]⟩ : ByteArray)⟩ : S66), (⟨1, 1, (([(⟨#[49]⟩ : ByteArray), (⟨#[95]⟩ : ByteArray)] : List ByteArray)), (⟨#[95]⟩ : ByteArray)⟩ : S66), (⟨1, 2, (([(⟨#[49]⟩ : ByteArray), (⟨#[95]⟩ : ByteArray)] : List ByteArray)), (⟨#[95]⟩ : ByteArray)⟩ : S66)] : List (S66)))
theorem sleuthlaw22_some.calls  (r : List (S66)) (w : World) (h : sleuthlaw22_some.f  = some r) :
 Calls Tryz.prog 19 #[] w fun e w' => ∃ v0_ : Value, e = .returned (v0_) ∧ Kd.N k66 66 w' w.heap.size (fun k_ => (w.heap.size ≤ k_)) v0_ r ∧ Below w.heap.size w w' := by
 have hu66 := Tryz.underlying66
 have HB := a_ (Below.refl w.heap.size w)
 have H := h; unfold sleuthlaw22_some.f at H
 clear h
 obtain ⟨y228, hy228⟩ : ∃ y_ : List ByteArray, y_ = (([(⟨#[64, 55, 40, 95, 32, 52, 41]⟩ : ByteArray), (⟨#[53]⟩ : ByteArray)] : List ByteArray)) := ⟨_, rfl⟩
 replace H : (some (([(⟨0, (-1), ([] : List ByteArray), (⟨#[57]⟩ : ByteArray)⟩ : S66), (⟨1, 0, y228, (⟨#[57]⟩ : ByteArray)⟩ : S66), (⟨2, 0, ([] : List ByteArray), (⟨#[33]⟩ : ByteArray)⟩ : S66), (⟨1, 1, (([(⟨#[49]⟩ : ByteArray), (⟨#[95]⟩ : ByteArray)] : List ByteArray)), (⟨#[95]⟩ : ByteArray)⟩ : S66), (⟨1, 2, (([(⟨#[49]⟩ : ByteArray), (⟨#[95]⟩ : ByteArray)] : List ByteArray)), (⟨#[95]⟩ : ByteArray)⟩ : S66)] : List (S66)))) = some r := by first | (rw [hy228]; with_reducible exact H) | (have H2_ := (Option.bind_some _ _).symm.trans H; rw [hy228]; with_reducible exact H2_) | (have H2_ := (Option.bind_some _ _).symm.trans H; with_reducible exact H2_) | with_reducible exact H | (rw [hy228]; exact H) | exact H
 have Ny228 := a_ hy228
 clear hy228
 obtain ⟨y231, hy231⟩ : ∃ y_ : List ByteArray, y_ = (([(⟨#[49]⟩ : ByteArray), (⟨#[95]⟩ : ByteArray)] : List ByteArray)) := ⟨_, rfl⟩
 replace H : (some (([(⟨0, (-1), ([] : List ByteArray), (⟨#[57]⟩ : ByteArray)⟩ : S66), (⟨1, 0, y228, (⟨#[57]⟩ : ByteArray)⟩ : S66), (⟨2, 0, ([] : List ByteArray), (⟨#[33]⟩ : ByteArray)⟩ : S66), (⟨1, 1, y231, (⟨#[95]⟩ : ByteArray)⟩ : S66), (⟨1, 2, (([(⟨#[49]⟩ : ByteArray), (⟨#[95]⟩ : ByteArray)] : List ByteArray)), (⟨#[95]⟩ : ByteArray)⟩ : S66)] : List (S66)))) = some r := by first | (rw [hy231]; with_reducible exact H) | (have H2_ := (Option.bind_some _ _).symm.trans H; rw [hy231]; with_reducible exact H2_) | (have H2_ := (Option.bind_some _ _).symm.trans H; with_reducible exact H2_) | with_reducible exact H | (rw [hy231]; exact H) | exact H
 have Ny231 := a_ hy231
 clear hy231
 obtain ⟨y234, hy234⟩ : ∃ y_ : List ByteArray, y_ = (([(⟨#[49]⟩ : ByteArray), (⟨#[95]⟩ : ByteArray)] : List ByteArray)) := ⟨_, rfl⟩
 replace H : (some (([(⟨0, (-1), ([] : List ByteArray), (⟨#[57]⟩ : ByteArray)⟩ : S66), (⟨1, 0, y228, (⟨#[57]⟩ : ByteArray)⟩ : S66), (⟨2, 0, ([] : List ByteArray), (⟨#[33]⟩ : ByteArray)⟩ : S66), (⟨1, 1, y231, (⟨#[95]⟩ : ByteArray)⟩ : S66), (⟨1, 2, y234, (⟨#[95]⟩ : ByteArray)⟩ : S66)] : List (S66)))) = some r := by first | (rw [hy234]; with_reducible exact H) | (have H2_ := (Option.bind_some _ _).symm.trans H; rw [hy234]; with_reducible exact H2_) | (have H2_ := (Option.bind_some _ _).symm.trans H; with_reducible exact H2_) | with_reducible exact H | (rw [hy234]; exact H) | exact H
 have Ny234 := a_ hy234
 clear hy234
 obtain ⟨y237, hy237⟩ : ∃ y_ : List (S66), y_ = (([(⟨0, (-1), ([] : List ByteArray), (⟨#[57]⟩ : ByteArray)⟩ : S66), (⟨1, 0, y228, (⟨#[57]⟩ : ByteArray)⟩ : S66), (⟨2, 0, ([] : List ByteArray), (⟨#[33]⟩ : ByteArray)⟩ : S66), (⟨1, 1, y231, (⟨#[95]⟩ : ByteArray)⟩ : S66), (⟨1, 2, y234, (⟨#[95]⟩ : ByteArray)⟩ : S66)] : List (S66))) := ⟨_, rfl⟩
 replace H : (some y237) = some r := by first | (rw [hy237]; with_reducible exact H) | (have H2_ := (Option.bind_some _ _).symm.trans H; rw [hy237]; with_reducible exact H2_) | (have H2_ := (Option.bind_some _ _).symm.trans H; with_reducible exact H2_) | with_reducible exact H | (rw [hy237]; exact H) | exact H
 have Ny237 := a_ hy237
 clear hy237
 obtain rfl := Option.some.inj H
 go_enter Tryz.func19, Tryz.ntmps19
 go_wp2_with (first | ((with_reducible refine gate_dst (N := 2) rfl ?_); refine Kd.R_lit Kd.string _ 9 ?hg (N := 2) ?hd (xs := ([(⟨#[64, 55, 40, 95, 32, 52, 41]⟩ : ByteArray), (⟨#[53]⟩ : ByteArray)] : List ByteArray)) (inner := [.string (⟨#[64, 55, 40, 95, 32, 52, 41]⟩ : ByteArray), .string (⟨#[53]⟩ : ByteArray)]) (ok := fun _ => True) (okp := fun _ => True) ?hr ?hp (fun _ hk => hk) trivial (Below.refl _ _) (Nat.le_refl _) (by simp) ?_; (case hd => rfl); (case hg => rfl); (case hr => first | (go_simp; done) | (go_simp; rfl)); (case hp => exact (Reps.one (show Kd.M Kd.string _ _ _ (⟨#[64, 55, 40, 95, 32, 52, 41]⟩ : ByteArray) [.string (⟨#[64, 55, 40, 95, 32, 52, 41]⟩ : ByteArray)] from rfl) (Reps.one (show Kd.M Kd.string _ _ _ (⟨#[53]⟩ : ByteArray) [.string (⟨#[53]⟩ : ByteArray)] from rfl) (Reps.none _ _)))); intro v229 w1 ho2 hb hg_ hnew_; clear hg_ hnew_; (first | rw [← Ny228.out] at ho2 | (simp only [Int.reduceToNat] at ho2; rw [← Ny228.out] at ho2)); have HO230 := a_ (Kd.R_lower (Kd.R_newM (M := fun k_ => (w.heap.size ≤ k_)) ho2 hS_ (fun k_ h_ => h_)) hS_); replace HB := a_ (below_step hB_ hb); clear hb ho2; obtain ⟨Ao3, co3, eo3⟩ := Kd.R_slice HO230.out; subst eo3) | ((with_reducible refine gate_dst (N := 5) rfl ?_); refine Kd.R_lit Kd.string _ 9 ?hg (N := 5) ?hd (xs := ([(⟨#[49]⟩ : ByteArray), (⟨#[95]⟩ : ByteArray)] : List ByteArray)) (inner := [.string (⟨#[49]⟩ : ByteArray), .string (⟨#[95]⟩ : ByteArray)]) (ok := fun _ => True) (okp := fun _ => True) ?hr ?hp (fun _ hk => hk) trivial (Below.refl _ _) (Nat.le_refl _) (by simp) ?_; (case hd => rfl); (case hg => rfl); (case hr => first | (go_simp; done) | (go_simp; rfl)); (case hp => exact (Reps.one (show Kd.M Kd.string _ _ _ (⟨#[49]⟩ : ByteArray) [.string (⟨#[49]⟩ : ByteArray)] from rfl) (Reps.one (show Kd.M Kd.string _ _ _ (⟨#[95]⟩ : ByteArray) [.string (⟨#[95]⟩ : ByteArray)] from rfl) (Reps.none _ _)))); intro v232 w4 ho5 hb hg_ hnew_; clear hg_ hnew_; (first | rw [← Ny231.out] at ho5 | (simp only [Int.reduceToNat] at ho5; rw [← Ny231.out] at ho5)); have HO233 := a_ (Kd.R_lower (Kd.R_new' (Kd.R_newM (M := fun k_ => (w.heap.size ≤ k_)) ho5 hS_ (fun k_ h_ => h_)) (Kd.R_lt (hR_ HO230.out))) hS_); replace HO230 := a_ (Kd.R_elder' (hR_ HO230.out) (Kd.R_base ho5) hb); replace HB := a_ (below_step hB_ hb); clear hb ho5; obtain ⟨Ao6, co6, eo6⟩ := Kd.R_slice HO233.out; subst eo6) | ((with_reducible refine gate_dst (N := 7) rfl ?_); refine Kd.R_lit Kd.string _ 9 ?hg (N := 7) ?hd (xs := ([(⟨#[49]⟩ : ByteArray), (⟨#[95]⟩ : ByteArray)] : List ByteArray)) (inner := [.string (⟨#[49]⟩ : ByteArray), .string (⟨#[95]⟩ : ByteArray)]) (ok := fun _ => True) (okp := fun _ => True) ?hr ?hp (fun _ hk => hk) trivial (Below.refl _ _) (Nat.le_refl _) (by simp) ?_; (case hd => rfl); (case hg => rfl); (case hr => first | (go_simp; done) | (go_simp; rfl)); (case hp => exact (Reps.one (show Kd.M Kd.string _ _ _ (⟨#[49]⟩ : ByteArray) [.string (⟨#[49]⟩ : ByteArray)] from rfl) (Reps.one (show Kd.M Kd.string _ _ _ (⟨#[95]⟩ : ByteArray) [.string (⟨#[95]⟩ : ByteArray)] from rfl) (Reps.none _ _)))); intro v235 w7 ho8 hb hg_ hnew_; clear hg_ hnew_; (first | rw [← Ny234.out] at ho8 | (simp only [Int.reduceToNat] at ho8; rw [← Ny234.out] at ho8)); have HO236 := a_ (Kd.R_lower (Kd.R_new' (Kd.R_new' (Kd.R_newM (M := fun k_ => (w.heap.size ≤ k_)) ho8 hS_ (fun k_ h_ => h_)) (Kd.R_lt (hR_ HO230.out))) (Kd.R_lt (hR_ HO233.out))) hS_); replace HO230 := a_ (Kd.R_elder' (hR_ HO230.out) (Kd.R_base ho8) hb); replace HO233 := a_ (Kd.R_elder' (hR_ HO233.out) (Kd.R_base ho8) hb); replace HB := a_ (below_step hB_ hb); clear hb ho8; obtain ⟨Ao9, co9, eo9⟩ := Kd.R_slice HO236.out; subst eo9) | ((with_reducible refine gate_dst (N := 9) rfl ?_); refine Kd.N_lit k66 _ 66 ?hg (N' := 9) ?hd (xs := ([(⟨0, (-1), ([] : List ByteArray), (⟨#[57]⟩ : ByteArray)⟩ : S66), (⟨1, 0, y228, (⟨#[57]⟩ : ByteArray)⟩ : S66), (⟨2, 0, ([] : List ByteArray), (⟨#[33]⟩ : ByteArray)⟩ : S66), (⟨1, 1, y231, (⟨#[95]⟩ : ByteArray)⟩ : S66), (⟨1, 2, y234, (⟨#[95]⟩ : ByteArray)⟩ : S66)] : List (S66))) (inner := [.int .i64 0, .int .i64 (-1), .slice none 0 0, .string (⟨#[57]⟩ : ByteArray), .int .i64 1, .int .i64 0, .slice Ao3 y228.length co3, .string (⟨#[57]⟩ : ByteArray), .int .i64 2, .int .i64 0, .slice none 0 0, .string (⟨#[33]⟩ : ByteArray), .int .i64 1, .int .i64 1, .slice Ao6 y231.length co6, .string (⟨#[95]⟩ : ByteArray), .int .i64 1, .int .i64 2, .slice Ao9 y234.length co9, .string (⟨#[95]⟩ : ByteArray)]) (ok := (fun k_ => (w.heap.size ≤ k_))) (okp := (fun k_ => (w.heap.size ≤ k_))) ?hr ?hp (fun _ hk => hk) ((show ∀ k_, w7.heap.size ≤ k_ → (fun k_ => (w.heap.size ≤ k_)) k_ from fun k_ hk => (Nat.le_trans hS_ hk)) _ (Nat.le_refl _)) (Below.refl _ _) (Nat.le_refl _) (by simp) ?_; (case hd => rfl); (case hg => rfl); (case hr => first | (go_simp; done) | (go_simp; rfl)); (case hp => exact (Reps.c4 (show Kd.FK k66 _ _ (⟨0, (-1), ([] : List ByteArray), (⟨#[57]⟩ : ByteArray)⟩ : S66) [.int .i64 0, .int .i64 (-1), .slice none 0 0, .string (⟨#[57]⟩ : ByteArray)] from (k66_mkF _ _ (⟨0, (-1), ([] : List ByteArray), (⟨#[57]⟩ : ByteArray)⟩ : S66) (Nat.le_refl _) (Kd.F_nil _ _ _))) (Reps.c4 (show Kd.FK k66 _ _ (⟨1, 0, y228, (⟨#[57]⟩ : ByteArray)⟩ : S66) [.int .i64 1, .int .i64 0, .slice Ao3 y228.length co3, .string (⟨#[57]⟩ : ByteArray)] from (k66_mkF _ _ (⟨1, 0, y228, (⟨#[57]⟩ : ByteArray)⟩ : S66) (Kd.R_reads' (Kd.R_mono (ok' := (fun k_ => (w.heap.size ≤ k_))) (HO230.out) (fun k_ hk => hk.1.1.1))).2.1 (Kd.R_F (Kd.R_mono (ok' := (fun k_ => (w.heap.size ≤ k_))) (HO230.out) (fun k_ hk => hk.1.1.1))))) (Reps.c4 (show Kd.FK k66 _ _ (⟨2, 0, ([] : List ByteArray), (⟨#[33]⟩ : ByteArray)⟩ : S66) [.int .i64 2, .int .i64 0, .slice none 0 0, .string (⟨#[33]⟩ : ByteArray)] from (k66_mkF _ _ (⟨2, 0, ([] : List ByteArray), (⟨#[33]⟩ : ByteArray)⟩ : S66) (Nat.le_refl _) (Kd.F_nil _ _ _))) (Reps.c4 (show Kd.FK k66 _ _ (⟨1, 1, y231, (⟨#[95]⟩ : ByteArray)⟩ : S66) [.int .i64 1, .int .i64 1, .slice Ao6 y231.length co6, .string (⟨#[95]⟩ : ByteArray)] from (k66_mkF _ _ (⟨1, 1, y231, (⟨#[95]⟩ : ByteArray)⟩ : S66) (Kd.R_reads' (Kd.R_mono (ok' := (fun k_ => (w.heap.size ≤ k_))) (HO233.out) (fun k_ hk => hk.1.1.1))).2.1 (Kd.R_F (Kd.R_mono (ok' := (fun k_ => (w.heap.size ≤ k_))) (HO233.out) (fun k_ hk => hk.1.1.1))))) (Reps.c4 (show Kd.FK k66 _ _ (⟨1, 2, y234, (⟨#[95]⟩ : ByteArray)⟩ : S66) [.int .i64 1, .int .i64 2, .slice Ao9 y234.length co9, .string (⟨#[95]⟩ : ByteArray)] from (k66_mkF _ _ (⟨1, 2, y234, (⟨#[95]⟩ : ByteArray)⟩ : S66) (Kd.R_reads' (Kd.R_mono (ok' := (fun k_ => (w.heap.size ≤ k_))) (HO236.out) (fun k_ hk => hk.1.1.1))).2.1 (Kd.R_F (Kd.R_mono (ok' := (fun k_ => (w.heap.size ≤ k_))) (HO236.out) (fun k_ hk => hk.1.1.1))))) (Reps.none _ _))))))); intro v238 w10 ho11 hb hg_ hnew_; clear hg_ hnew_; (first | rw [← Ny237.out] at ho11 | (simp only [Int.reduceToNat] at ho11; rw [← Ny237.out] at ho11)); have HO239 := a_ (Kd.N_lower ho11 hS_); replace HB := a_ (below_step hB_ hb); clear HO230 HO233 HO236; clear hb ho11))
 go_ret
 exact ⟨_, hV_, hN_ HO239.out, hC_⟩

end Go.Proofs.YtbnljapgnfmmoaaGreatDoor.G
end
section
-- Laid by the session's own driver gp.py over the kit's printer. Not trusted: Lean checks it.
namespace Go.Proofs.YtbnljapgnfmmoaaGreatDoor.G
open Go.RowKit Go.Proofs.YtbnljapgnfmmoaaGreatDoorW.PrintWords Go.Proofs.YtbnljapgnfmmoaaGreatDoorW.PrintLast Go.Proofs.YtbnljapgnfmmoaaGreatDoorW.PrintMore
set_option maxHeartbeats 8000000
set_option maxRecDepth 100000
attribute [local go_sem] max2_int min2_int max_two min_two max_three min_three max_four min_four   -- for this text's walks alone
set_option linter.unusedVariables false
set_option linter.unusedSimpArgs false

def sleuthlaw22_awake.f (k : Nat)  : Option (Bool) := (sleuthlaw22_some.f).bind fun t240 => ((answer_Put.f k t240 0 ([] : List (S53)) 2).bind fun bt244 => ((answer_Put.f k bt244.1 bt244.2.1 bt244.2.2.1 1).bind fun bt253 => ((answer_Undo.f k bt253.1 bt253.2.1 bt253.2.2.1).bind fun bt262 => ((answer_Undo.f k t240 0 ([] : List (S53))).bind fun bt271 => ((answer_Put.f k t240 0 ([] : List (S53)) 0).bind fun bt280 => ((answer_Put.f k t240 0 ([] : List (S53)) 1).bind fun bt289 => ((answer_Put.f k bt289.1 bt289.2.1 bt289.2.2.1 1).bind fun bt298 => ((sleuthlaw0_SameAnswers.f k bt253.2.2.1 (([(⟨0, 2⟩ : S53), (⟨1, 1⟩ : S53)] : List (S53)))).bind fun t310 => (if t310 = true then ((sleuthlaw0_Num.f bt244.2.2.2).bind fun t311 => (if t311 = 0 then ((sleuthlaw0_Num.f bt253.2.2.2).bind fun t312 => (if t312 = 0 then ((sleuthlaw0_SameSession.f k bt244.1 bt244.2.1 bt244.2.2.1 bt262.1 bt262.2.1 bt262.2.2.1).bind fun t313 => (if t313 = true then ((sleuthlaw0_Num.f bt262.2.2.2).bind fun t314 => (if t314 = 0 then ((sleuthlaw0_Num.f bt271.2.2.2).bind fun t315 => (if t315 = 2201 then ((sleuthlaw0_Num.f bt280.2.2.2).bind fun t316 => (if t316 = 2200 then ((sleuthlaw0_Num.f bt289.2.2.2).bind fun t317 => (if t317 = 0 then ((sleuthlaw0_Num.f bt298.2.2.2).bind fun t318 => (some (t318 == 2201))) else (none))) else (none))) else (none))) else (none))) else (none))) else (none))) else (none))) else (none))))))))))
theorem sleuthlaw22_awake.mono : ∀ k, LeO (sleuthlaw22_awake.f k ) (sleuthlaw22_awake.f (k + 1) ) := by
 intro  k
 unfold sleuthlaw22_awake.f
 repeat' first
  | (with_reducible exact answer_Put.mono _ _ _ _ _)
  | (with_reducible exact answer_Undo.mono _ _ _ _)
  | (with_reducible exact sleuthlaw0_SameAnswers.mono _ _ _)
  | (with_reducible exact sleuthlaw0_SameSession.mono _ _ _ _ _ _ _)
  | (with_reducible exact LeO.refl _)
  | (with_reducible exact LeO.none _)
  | (with_reducible refine LeO.ite ?_ ?_)
  | (with_reducible refine LeO.bind ?_ (fun _ => ?_))
  | exact answer_Put.mono _ _ _ _ _
  | exact answer_Undo.mono _ _ _ _
  | exact sleuthlaw0_SameAnswers.mono _ _ _
  | exact sleuthlaw0_SameSession.mono _ _ _ _ _ _ _
  | exact LeO.none _
  | refine LeO.ite ?_ ?_
  | refine LeO.bind ?_ (fun _ => ?_)
theorem sleuthlaw22_awake.calls (k : Nat)  (r : Bool) (w : World) (h : sleuthlaw22_awake.f k  = some r) (hG : GOK w) :
 Calls Tryz.prog 15 #[] w fun e w' => e = .returned (.bool r) ∧ Below w.heap.size w w' := by
 have hu25 := Tryz.underlying25
 have hu53 := Tryz.underlying53
 have HB := a_ (Below.refl w.heap.size w)
 have H := h; unfold sleuthlaw22_awake.f at H
 clear h
 replace H := Option.bind_eq_some_iff.mp H
 obtain ⟨t240, A10, H⟩ := H
 try dsimp only at H
 have A1 := a_ A10
 clear A10
 replace H := Option.bind_eq_some_iff.mp H
 obtain ⟨⟨t244, t247, t248, t251⟩, A20, H⟩ := H
 try dsimp only at H
 have A2 := a_ A20
 clear A20
 replace H := Option.bind_eq_some_iff.mp H
 obtain ⟨⟨t253, t256, t257, t260⟩, A30, H⟩ := H
 try dsimp only at H
 have A3 := a_ A30
 clear A30
 replace H := Option.bind_eq_some_iff.mp H
 obtain ⟨⟨t262, t265, t266, t269⟩, A40, H⟩ := H
 try dsimp only at H
 have A4 := a_ A40
 clear A40
 replace H := Option.bind_eq_some_iff.mp H
 obtain ⟨⟨t271, t274, t275, t278⟩, A50, H⟩ := H
 try dsimp only at H
 have A5 := a_ A50
 clear A50
 replace H := Option.bind_eq_some_iff.mp H
 obtain ⟨⟨t280, t283, t284, t287⟩, A60, H⟩ := H
 try dsimp only at H
 have A6 := a_ A60
 clear A60
 replace H := Option.bind_eq_some_iff.mp H
 obtain ⟨⟨t289, t292, t293, t296⟩, A70, H⟩ := H
 try dsimp only at H
 have A7 := a_ A70
 clear A70
 replace H := Option.bind_eq_some_iff.mp H
 obtain ⟨⟨t298, t301, t302, t305⟩, A80, H⟩ := H
 try dsimp only at H
 have A8 := a_ A80
 clear A80
 obtain ⟨y307, hy307⟩ : ∃ y_ : List (S53), y_ = (([(⟨0, 2⟩ : S53), (⟨1, 1⟩ : S53)] : List (S53))) := ⟨_, rfl⟩
 replace H : ((sleuthlaw0_SameAnswers.f k t257 y307).bind fun t310 => (if t310 = true then ((sleuthlaw0_Num.f t251).bind fun t311 => (if t311 = 0 then ((sleuthlaw0_Num.f t260).bind fun t312 => (if t312 = 0 then ((sleuthlaw0_SameSession.f k t244 t247 t248 t262 t265 t266).bind fun t313 => (if t313 = true then ((sleuthlaw0_Num.f t269).bind fun t314 => (if t314 = 0 then ((sleuthlaw0_Num.f t278).bind fun t315 => (if t315 = 2201 then ((sleuthlaw0_Num.f t287).bind fun t316 => (if t316 = 2200 then ((sleuthlaw0_Num.f t296).bind fun t317 => (if t317 = 0 then ((sleuthlaw0_Num.f t305).bind fun t318 => (some (t318 == 2201))) else (none))) else (none))) else (none))) else (none))) else (none))) else (none))) else (none))) else (none))) = some r := by first | (rw [hy307]; with_reducible exact H) | (have H2_ := (Option.bind_some _ _).symm.trans H; rw [hy307]; with_reducible exact H2_) | (have H2_ := (Option.bind_some _ _).symm.trans H; with_reducible exact H2_) | with_reducible exact H | (rw [hy307]; exact H) | exact H
 have Ny307 := a_ hy307
 clear hy307
 replace H := Option.bind_eq_some_iff.mp H
 obtain ⟨t310, A90, H⟩ := H
 try dsimp only at H
 have A9 := a_ A90
 clear A90
 by_cases c10 : t310 = true
 case neg =>
  replace c10 := Bool.eq_false_iff.mpr c10
  subst c10
  rw [if_neg (show ¬ (false = true) by decide)] at H
  cases H
 subst c10
 rw [if_pos rfl] at H
 replace H := Option.bind_eq_some_iff.mp H
 obtain ⟨t311, A110, H⟩ := H
 try dsimp only at H
 have A11 := a_ A110
 clear A110
 by_cases c12 : t311 = 0
 case neg =>
  rw [if_neg c12] at H
  have c12b0 : (t311 == 0) = false := beq_eq_false_iff_ne.mpr c12
  have c12b1 : (t311 != 0) = true := bne_iff_ne.mpr c12
  cases H
 rw [if_pos c12] at H
 have c12b0 : (t311 == 0) = true := beq_iff_eq.mpr c12
 have c12b1 : (t311 != 0) = false := bne_eq_false_iff_eq.mpr c12
 clear c12
 replace H := Option.bind_eq_some_iff.mp H
 obtain ⟨t312, A130, H⟩ := H
 try dsimp only at H
 have A13 := a_ A130
 clear A130
 by_cases c14 : t312 = 0
 case neg =>
  rw [if_neg c14] at H
  have c14b0 : (t312 == 0) = false := beq_eq_false_iff_ne.mpr c14
  have c14b1 : (t312 != 0) = true := bne_iff_ne.mpr c14
  cases H
 rw [if_pos c14] at H
 have c14b0 : (t312 == 0) = true := beq_iff_eq.mpr c14
 have c14b1 : (t312 != 0) = false := bne_eq_false_iff_eq.mpr c14
 clear c14
 replace H := Option.bind_eq_some_iff.mp H
 obtain ⟨t313, A150, H⟩ := H
 try dsimp only at H
 have A15 := a_ A150
 clear A150
 by_cases c16 : t313 = true
 case neg =>
  replace c16 := Bool.eq_false_iff.mpr c16
  subst c16
  rw [if_neg (show ¬ (false = true) by decide)] at H
  cases H
 subst c16
 rw [if_pos rfl] at H
 replace H := Option.bind_eq_some_iff.mp H
 obtain ⟨t314, A170, H⟩ := H
 try dsimp only at H
 have A17 := a_ A170
 clear A170
 by_cases c18 : t314 = 0
 case neg =>
  rw [if_neg c18] at H
  have c18b0 : (t314 == 0) = false := beq_eq_false_iff_ne.mpr c18
  have c18b1 : (t314 != 0) = true := bne_iff_ne.mpr c18
  cases H
 rw [if_pos c18] at H
 have c18b0 : (t314 == 0) = true := beq_iff_eq.mpr c18
 have c18b1 : (t314 != 0) = false := bne_eq_false_iff_eq.mpr c18
 clear c18
 replace H := Option.bind_eq_some_iff.mp H
 obtain ⟨t315, A190, H⟩ := H
 try dsimp only at H
 have A19 := a_ A190
 clear A190
 by_cases c20 : t315 = 2201
 case neg =>
  rw [if_neg c20] at H
  have c20b0 : (t315 == 2201) = false := beq_eq_false_iff_ne.mpr c20
  have c20b1 : (t315 != 2201) = true := bne_iff_ne.mpr c20
  cases H
 rw [if_pos c20] at H
 have c20b0 : (t315 == 2201) = true := beq_iff_eq.mpr c20
 have c20b1 : (t315 != 2201) = false := bne_eq_false_iff_eq.mpr c20
 clear c20
 replace H := Option.bind_eq_some_iff.mp H
 obtain ⟨t316, A210, H⟩ := H
 try dsimp only at H
 have A21 := a_ A210
 clear A210
 by_cases c22 : t316 = 2200
 case neg =>
  rw [if_neg c22] at H
  have c22b0 : (t316 == 2200) = false := beq_eq_false_iff_ne.mpr c22
  have c22b1 : (t316 != 2200) = true := bne_iff_ne.mpr c22
  cases H
 rw [if_pos c22] at H
 have c22b0 : (t316 == 2200) = true := beq_iff_eq.mpr c22
 have c22b1 : (t316 != 2200) = false := bne_eq_false_iff_eq.mpr c22
 clear c22
 replace H := Option.bind_eq_some_iff.mp H
 obtain ⟨t317, A230, H⟩ := H
 try dsimp only at H
 have A23 := a_ A230
 clear A230
 by_cases c24 : t317 = 0
 case neg =>
  rw [if_neg c24] at H
  have c24b0 : (t317 == 0) = false := beq_eq_false_iff_ne.mpr c24
  have c24b1 : (t317 != 0) = true := bne_iff_ne.mpr c24
  cases H
 rw [if_pos c24] at H
 have c24b0 : (t317 == 0) = true := beq_iff_eq.mpr c24
 have c24b1 : (t317 != 0) = false := bne_eq_false_iff_eq.mpr c24
 clear c24
 replace H := Option.bind_eq_some_iff.mp H
 obtain ⟨t318, A250, H⟩ := H
 try dsimp only at H
 have A25 := a_ A250
 clear A250
 obtain rfl := Option.some.inj H
 go_enter Tryz.func15, Tryz.ntmps15
 go_wp2_with (first | ((with_reducible refine gate_callee (f := 19) rfl ?_); refine goesL_ (some 16) rfl rfl Tryz.func19 (by kernel_rfl) rfl #[] rfl hL_ ?_; (with_reducible refine (sleuthlaw22_some.calls  t240 _ A1.out).mono ?_); rintro e w26 ⟨v241, rfl, ho0, hb⟩; refine ⟨_, rfl, ?_⟩; have HO242 := a_ (Kd.N_lower (Kd.N_mono (ok' := fun k_ => True) ho0 (fun k_ hk_ => trivial)) hS_); replace HB := a_ (below_step hB_ hb); (try clear hb); (try clear hb2); (try clear hk); (try clear hi); (try clear ho0); obtain ⟨Ao27, co27, eo27⟩ := Kd.N_slice HO242.out; subst eo27) | ((with_reducible refine gate_dst (N := 1) rfl ?_); refine boxE_ 1 #[.slice none 0 0, .int .i64 0, .slice none 0 0] 25 ?_; intro gb243 hg w28 hbox hb; replace HO242 := a_ (Kd.N_below (Kd.N_elderB (hN_ HO242.out) gb243 (Nat.le_of_eq hg.symm)) hb); have BK243 := a_ (hbox); have GW243 := a_ ((gE_ hg : w.heap.size ≤ gb243)); have GE243 := a_ ((gE_ hg : w.heap.size ≤ gb243)); replace HB := a_ (below_step hB_ hb); clear hb hbox hg; obtain ⟨hcz29_0, hcz29_1, hcz29_2, hfz29_0, hfz29_1, hfz29_2⟩ := bx3_ BK243.out) | ((with_reducible refine gate_callee (f := 8) rfl ?_); refine goesL_ (some 20) rfl rfl Tryz.func8 (by kernel_rfl) rfl #[.agg #[.slice Ao27 t240.length co27, .int .i64 0, .slice none 0 0], .int .i64 2] rfl hL_ ?_; (refine (answer_Put.calls k _ _ t240 0 _ _ ([] : List (S53)) 2 t244 t247 t248 t251 _ ?side1 ?side2 ?side3 ?side4 A2.out (by first | exact hG | exact GOK.below hG hC_)).mono ?_); (case side1 => refine (Kd.N_reads' (e := 66) (base := w.heap.size) (ok := fun k_ => (True ∧ k_ ≠ gb243)) (n := t240.length) (c := co27) ?_).2.2; exact (by (with_reducible repeat (first | apply Kd.N_alloc | apply Kd.N_drewN | apply Kd.N_drew)); exact (Kd.N_mono (nF_ (nF_ (nF_ (Kd.N_mono HO242.out (fun k_ hk => (⟨hk, hk.2⟩ : _ ∧ k_ ≠ gb243)))))) (fun _ h_ => h_.1)))); (case side2 => exact (Kd.N_reads' HO242.out).2.1); (case side3 => exact Kd.C_nil _ _); (case side4 => exact Nat.le_refl _); rintro e w30 ⟨v245, v249, rfl, ho0, ho1, hb⟩; refine ⟨_, rfl, ?_⟩; have HO246 := a_ (Kd.N_lower (Kd.N_mono (ok' := fun k_ => some k_ ≠ (v249 : Value).ownBlock ∧ some k_ ≠ (.slice Ao27 t240.length co27 : Value).ownBlock ∧ k_ ≠ gb243) (Kd.S_N (Kd.S_bound (Kd.S_apart' ho0 (Kd.R_typed ho1) (by decide)))) (fun k_ hk_ => ⟨hk_.1.2, (Kd.fresh' (Kd.N_lt (by (with_reducible repeat (first | apply Kd.N_alloc | apply Kd.N_drewN | apply Kd.N_drew)); exact (Kd.N_mono (nF_ (nF_ (nF_ (Kd.N_mono HO242.out (fun k_ hk => (⟨hk, hk.2⟩ : _ ∧ k_ ≠ gb243)))))) (fun _ h_ => h_.1)))) k_ hk_.2.1), (Kd.freshB (g := gb243) (o := .cells #[.slice Ao27 t240.length co27, .int .i64 0, .slice none 0 0] 25 (0, 0)) (bP_ (bP_ (bP_ (hK_ BK243.out)))) k_ hk_.2.1)⟩)) (below_size hC_)); replace HO242 := a_ (Kd.N_mono (Kd.N_told (Kd.N_told (Kd.N_old (by (with_reducible repeat (first | apply Kd.N_alloc | apply Kd.N_drewN | apply Kd.N_drew)); exact (Kd.N_mono (nF_ (nF_ (nF_ (Kd.N_mono HO242.out (fun k_ hk => (⟨hk, hk.2⟩ : _ ∧ k_ ≠ gb243)))))) (fun _ h_ => h_.1))) hb) (Kd.N_base (Kd.R_N (Kd.S_R ho0)))) (Kd.R_base ho1)) (fun _ h_ => h_.1)); have HO250 := a_ (Kd.R_lower ho1 (below_size hC_)); replace BK243 := a_ (blk_below (g := gb243) (o := .cells #[.slice Ao27 t240.length co27, .int .i64 0, .slice none 0 0] 25 (0, 0)) (by (with_reducible repeat (first | refine blk_drewN ?_ _ | refine blk_drew ?_ | refine blk_alloc ?_ _)); exact (bP_ (bP_ (bP_ (hK_ BK243.out))))) hb); replace HB := a_ (below_step hC_ hb); (try clear hb); (try clear hb2); (try clear hk); (try clear hi); (try clear ho0); (try clear ho1)) | ((with_reducible refine gate_dst (N := 2) rfl ?_); refine boxE_ 2 #[.slice none 0 0, .int .i64 0, .slice none 0 0] 25 ?_; intro gb252 hg w31 hbox hb; replace HO242 := a_ (Kd.N_below (Kd.N_elderB (hN_ HO242.out) gb252 (Nat.le_of_eq hg.symm)) hb); replace HO246 := a_ (Kd.N_below (Kd.N_elderB (hN_ HO246.out) gb252 (Nat.le_of_eq hg.symm)) hb); replace HO250 := a_ (Kd.R_below (hR_ HO250.out) hb); have BK252 := a_ (hbox); have GW252 := a_ ((gE_ hg : w.heap.size ≤ gb252)); have GE252 := a_ ((gE_ hg : w.heap.size ≤ gb252)); replace HB := a_ (below_step hC_ hb); have NB243_252 := a_ ((bL_ BK243.out hg : gb243 ≠ gb252)); have NB252_243 := a_ ((bG_ BK243.out hg : gb252 ≠ gb243)); replace BK243 := a_ (bB_ BK243.out hb); clear hb hbox hg; obtain ⟨Ao32, co32, eo32⟩ := Kd.N_slice HO246.out; subst eo32; have hnb33 := NB252_243.out; have hnc33 := NB243_252.out; obtain ⟨hcz34_0, hcz34_1, hcz34_2, hfz34_0, hfz34_1, hfz34_2⟩ := bx3_ BK252.out; obtain ⟨Ao35, co35, eo35⟩ := Kd.R_slice HO250.out; subst eo35) | ((with_reducible refine gate_callee (f := 8) rfl ?_); refine goesL_ (some 25) rfl rfl Tryz.func8 (by kernel_rfl) rfl #[.agg #[.slice Ao32 t244.length co32, .int .i64 t247, .slice Ao35 t248.length co35], .int .i64 1] rfl hL_ ?_; (with_reducible refine (answer_Put.calls k _ _ t244 t247 _ _ t248 1 t253 t256 t257 t260 _ ?side1 ?side2 ?side3 ?side4 A3.out (by first | exact hG | exact GOK.below hG hC_)).mono ?_); (case side1 => refine (Kd.N_reads' (e := 66) (base := w.heap.size) (ok := fun k_ => ((some k_ ≠ (.slice Ao35 t248.length co35 : Value).ownBlock ∧ (some k_ ≠ (.slice Ao27 t240.length co27 : Value).ownBlock ∧ k_ ≠ gb243)) ∧ k_ ≠ gb252)) (n := t244.length) (c := co32) ?_).2.2; exact (by (with_reducible repeat (first | apply Kd.N_alloc | apply Kd.N_drewN | apply Kd.N_drew)); exact (Kd.N_mono (nF_ (nF_ (nF_ (Kd.N_mono HO246.out (fun k_ hk => (⟨hk, hk.2⟩ : _ ∧ k_ ≠ gb252)))))) (fun _ h_ => h_.1)))); (case side2 => exact (Kd.N_reads' HO246.out).2.1); (case side3 => refine (Kd.R_reads' (e := 53) (base := w.heap.size) (ok := fun k_ => True) (n := t248.length) (c := co35) ?_).2.2; exact (by (with_reducible repeat (first | apply Kd.R_alloc | apply Kd.R_drewN | apply Kd.R_drew)); exact (Kd.R_mono (rF_ (rF_ (rF_ (Kd.R_types HO250.out BK252.out (by decide))))) (fun _ h_ => h_.1)))); (case side4 => exact (Kd.R_reads' HO250.out).2.1); rintro e w36 ⟨v254, v258, rfl, ho0, ho1, hb⟩; refine ⟨_, rfl, ?_⟩; have HO255 := a_ (Kd.N_lower (Kd.N_mono (ok' := fun k_ => some k_ ≠ (v258 : Value).ownBlock ∧ some k_ ≠ (.slice Ao27 t240.length co27 : Value).ownBlock ∧ some k_ ≠ (.slice Ao32 t244.length co32 : Value).ownBlock ∧ some k_ ≠ (.slice Ao35 t248.length co35 : Value).ownBlock ∧ k_ ≠ gb243 ∧ k_ ≠ gb252) (Kd.S_N (Kd.S_bound (Kd.S_apart' ho0 (Kd.R_typed ho1) (by decide)))) (fun k_ hk_ => ⟨hk_.1.2, (Kd.fresh' (Kd.N_lt (by (with_reducible repeat (first | apply Kd.N_alloc | apply Kd.N_drewN | apply Kd.N_drew)); exact (Kd.N_mono (nF_ (nF_ (nF_ (Kd.N_mono HO242.out (fun k_ hk => (⟨hk, hk.2⟩ : _ ∧ k_ ≠ gb252)))))) (fun _ h_ => h_.1)))) k_ hk_.2.1), (Kd.fresh' (Kd.N_lt (by (with_reducible repeat (first | apply Kd.N_alloc | apply Kd.N_drewN | apply Kd.N_drew)); exact (Kd.N_mono (nF_ (nF_ (nF_ (Kd.N_mono HO246.out (fun k_ hk => (⟨hk, hk.2⟩ : _ ∧ k_ ≠ gb252)))))) (fun _ h_ => h_.1)))) k_ hk_.2.1), (Kd.fresh' (Kd.R_lt (by (with_reducible repeat (first | apply Kd.R_alloc | apply Kd.R_drewN | apply Kd.R_drew)); exact (Kd.R_mono (rF_ (rF_ (rF_ (Kd.R_types HO250.out BK252.out (by decide))))) (fun _ h_ => h_.1)))) k_ hk_.2.1), (Kd.freshB (g := gb243) (o := .cells #[.slice Ao27 t240.length co27, .int .i64 0, .slice none 0 0] 25 (0, 0)) (bF_ (bF_ (bF_ (hK_ BK243.out) NB243_252.out) NB243_252.out) NB243_252.out) k_ hk_.2.1), (Kd.freshB (g := gb252) (o := .cells #[.slice Ao32 t244.length co32, .int .i64 t247, .slice Ao35 t248.length co35] 25 (0, 0)) (bP_ (bP_ (bP_ (hK_ BK252.out)))) k_ hk_.2.1)⟩)) (below_size hC_)); replace HO242 := a_ (Kd.N_mono (Kd.N_told (Kd.N_told (Kd.N_old (by (with_reducible repeat (first | apply Kd.N_alloc | apply Kd.N_drewN | apply Kd.N_drew)); exact (Kd.N_mono (nF_ (nF_ (nF_ (Kd.N_mono HO242.out (fun k_ hk => (⟨hk, hk.2⟩ : _ ∧ k_ ≠ gb252)))))) (fun _ h_ => h_.1))) hb) (Kd.N_base (Kd.R_N (Kd.S_R ho0)))) (Kd.R_base ho1)) (fun _ h_ => h_.1)); replace HO246 := a_ (Kd.N_mono (Kd.N_told (Kd.N_told (Kd.N_old (by (with_reducible repeat (first | apply Kd.N_alloc | apply Kd.N_drewN | apply Kd.N_drew)); exact (Kd.N_mono (nF_ (nF_ (nF_ (Kd.N_mono HO246.out (fun k_ hk => (⟨hk, hk.2⟩ : _ ∧ k_ ≠ gb252)))))) (fun _ h_ => h_.1))) hb) (Kd.N_base (Kd.R_N (Kd.S_R ho0)))) (Kd.R_base ho1)) (fun _ h_ => h_.1)); have HO259 := a_ (Kd.R_lower (Kd.R_new' ho1 (Kd.R_lt (by (with_reducible repeat (first | apply Kd.R_alloc | apply Kd.R_drewN | apply Kd.R_drew)); exact (Kd.R_mono (rF_ (rF_ (rF_ (Kd.R_types HO250.out BK252.out (by decide))))) (fun _ h_ => h_.1))))) (below_size hC_)); replace HO250 := a_ (Kd.R_elder' (by (with_reducible repeat (first | apply Kd.R_alloc | apply Kd.R_drewN | apply Kd.R_drew)); exact (Kd.R_mono (rF_ (rF_ (rF_ (Kd.R_types HO250.out BK252.out (by decide))))) (fun _ h_ => h_.1))) (Kd.R_base ho1) hb); replace BK243 := a_ (blk_below (g := gb243) (o := .cells #[.slice Ao27 t240.length co27, .int .i64 0, .slice none 0 0] 25 (0, 0)) (by (with_reducible repeat (first | refine blk_drewN ?_ _ | refine blk_drew ?_ | refine blk_alloc ?_ _)); exact (bF_ (bF_ (bF_ (hK_ BK243.out) NB243_252.out) NB243_252.out) NB243_252.out)) hb); replace BK252 := a_ (blk_below (g := gb252) (o := .cells #[.slice Ao32 t244.length co32, .int .i64 t247, .slice Ao35 t248.length co35] 25 (0, 0)) (by (with_reducible repeat (first | refine blk_drewN ?_ _ | refine blk_drew ?_ | refine blk_alloc ?_ _)); exact (bP_ (bP_ (bP_ (hK_ BK252.out))))) hb); replace HB := a_ (below_step hC_ hb); (try clear hb); (try clear hb2); (try clear hk); (try clear hi); (try clear ho0); (try clear ho1)) | ((with_reducible refine gate_dst (N := 4) rfl ?_); refine boxE_ 4 #[.slice none 0 0, .int .i64 0, .slice none 0 0] 25 ?_; intro gb261 hg w37 hbox hb; replace HO242 := a_ (Kd.N_below (Kd.N_elderB (hN_ HO242.out) gb261 (Nat.le_of_eq hg.symm)) hb); replace HO246 := a_ (Kd.N_below (Kd.N_elderB (hN_ HO246.out) gb261 (Nat.le_of_eq hg.symm)) hb); replace HO250 := a_ (Kd.R_below (hR_ HO250.out) hb); replace HO255 := a_ (Kd.N_below (Kd.N_elderB (hN_ HO255.out) gb261 (Nat.le_of_eq hg.symm)) hb); replace HO259 := a_ (Kd.R_below (hR_ HO259.out) hb); have BK261 := a_ (hbox); have GW261 := a_ ((gE_ hg : w.heap.size ≤ gb261)); have GE261 := a_ ((gE_ hg : w.heap.size ≤ gb261)); replace HB := a_ (below_step hC_ hb); have NB243_261 := a_ ((bL_ BK243.out hg : gb243 ≠ gb261)); have NB261_243 := a_ ((bG_ BK243.out hg : gb261 ≠ gb243)); replace BK243 := a_ (bB_ BK243.out hb); have NB252_261 := a_ ((bL_ BK252.out hg : gb252 ≠ gb261)); have NB261_252 := a_ ((bG_ BK252.out hg : gb261 ≠ gb252)); replace BK252 := a_ (bB_ BK252.out hb); clear hb hbox hg; obtain ⟨Ao38, co38, eo38⟩ := Kd.N_slice HO255.out; subst eo38; have hnb39 := NB261_243.out; have hnc39 := NB243_261.out; have hnb40 := NB261_252.out; have hnc40 := NB252_261.out; obtain ⟨hcz41_0, hcz41_1, hcz41_2, hfz41_0, hfz41_1, hfz41_2⟩ := bx3_ BK261.out; obtain ⟨Ao42, co42, eo42⟩ := Kd.R_slice HO259.out; subst eo42) | ((with_reducible refine gate_callee (f := 10) rfl ?_); refine goesL_ (some 30) rfl rfl Tryz.func10 (by kernel_rfl) rfl #[.agg #[.slice Ao38 t253.length co38, .int .i64 t256, .slice Ao42 t257.length co42]] rfl hL_ ?_; (with_reducible refine (answer_Undo.calls k _ _ t253 t256 _ _ t257 t262 t265 t266 t269 _ ?side1 ?side2 ?side3 ?side4 A4.out (by first | exact hG | exact GOK.below hG hC_)).mono ?_); (case side1 => refine (Kd.N_reads' (e := 66) (base := w.heap.size) (ok := fun k_ => ((some k_ ≠ (.slice Ao42 t257.length co42 : Value).ownBlock ∧ (some k_ ≠ (.slice Ao27 t240.length co27 : Value).ownBlock ∧ (some k_ ≠ (.slice Ao32 t244.length co32 : Value).ownBlock ∧ (some k_ ≠ (.slice Ao35 t248.length co35 : Value).ownBlock ∧ (k_ ≠ gb243 ∧ k_ ≠ gb252))))) ∧ k_ ≠ gb261)) (n := t253.length) (c := co38) ?_).2.2; exact (by (with_reducible repeat (first | apply Kd.N_alloc | apply Kd.N_drewN | apply Kd.N_drew)); exact (Kd.N_mono (nF_ (nF_ (nF_ (Kd.N_mono HO255.out (fun k_ hk => (⟨hk, hk.2⟩ : _ ∧ k_ ≠ gb261)))))) (fun _ h_ => h_.1)))); (case side2 => exact (Kd.N_reads' HO255.out).2.1); (case side3 => refine (Kd.R_reads' (e := 53) (base := w.heap.size) (ok := fun k_ => (True ∧ some k_ ≠ (.slice Ao35 t248.length co35 : Value).ownBlock)) (n := t257.length) (c := co42) ?_).2.2; exact (by (with_reducible repeat (first | apply Kd.R_alloc | apply Kd.R_drewN | apply Kd.R_drew)); exact (Kd.R_mono (rF_ (rF_ (rF_ (Kd.R_types HO259.out BK261.out (by decide))))) (fun _ h_ => h_.1)))); (case side4 => exact (Kd.R_reads' HO259.out).2.1); rintro e w43 ⟨v263, v267, rfl, ho0, ho1, hb⟩; refine ⟨_, rfl, ?_⟩; have HO264 := a_ (Kd.N_lower (Kd.N_mono (ok' := fun k_ => some k_ ≠ (v267 : Value).ownBlock ∧ some k_ ≠ (.slice Ao27 t240.length co27 : Value).ownBlock ∧ some k_ ≠ (.slice Ao32 t244.length co32 : Value).ownBlock ∧ some k_ ≠ (.slice Ao35 t248.length co35 : Value).ownBlock ∧ some k_ ≠ (.slice Ao38 t253.length co38 : Value).ownBlock ∧ some k_ ≠ (.slice Ao42 t257.length co42 : Value).ownBlock ∧ k_ ≠ gb243 ∧ k_ ≠ gb252 ∧ k_ ≠ gb261) (Kd.S_N (Kd.S_bound (Kd.S_apart' ho0 (Kd.R_typed ho1) (by decide)))) (fun k_ hk_ => ⟨hk_.1.2, (Kd.fresh' (Kd.N_lt (by (with_reducible repeat (first | apply Kd.N_alloc | apply Kd.N_drewN | apply Kd.N_drew)); exact (Kd.N_mono (nF_ (nF_ (nF_ (Kd.N_mono HO242.out (fun k_ hk => (⟨hk, hk.2⟩ : _ ∧ k_ ≠ gb261)))))) (fun _ h_ => h_.1)))) k_ hk_.2.1), (Kd.fresh' (Kd.N_lt (by (with_reducible repeat (first | apply Kd.N_alloc | apply Kd.N_drewN | apply Kd.N_drew)); exact (Kd.N_mono (nF_ (nF_ (nF_ (Kd.N_mono HO246.out (fun k_ hk => (⟨hk, hk.2⟩ : _ ∧ k_ ≠ gb261)))))) (fun _ h_ => h_.1)))) k_ hk_.2.1), (Kd.fresh' (Kd.R_lt (by (with_reducible repeat (first | apply Kd.R_alloc | apply Kd.R_drewN | apply Kd.R_drew)); exact (Kd.R_mono (rF_ (rF_ (rF_ (Kd.R_types HO250.out BK261.out (by decide))))) (fun _ h_ => h_.1)))) k_ hk_.2.1), (Kd.fresh' (Kd.N_lt (by (with_reducible repeat (first | apply Kd.N_alloc | apply Kd.N_drewN | apply Kd.N_drew)); exact (Kd.N_mono (nF_ (nF_ (nF_ (Kd.N_mono HO255.out (fun k_ hk => (⟨hk, hk.2⟩ : _ ∧ k_ ≠ gb261)))))) (fun _ h_ => h_.1)))) k_ hk_.2.1), (Kd.fresh' (Kd.R_lt (by (with_reducible repeat (first | apply Kd.R_alloc | apply Kd.R_drewN | apply Kd.R_drew)); exact (Kd.R_mono (rF_ (rF_ (rF_ (Kd.R_types HO259.out BK261.out (by decide))))) (fun _ h_ => h_.1)))) k_ hk_.2.1), (Kd.freshB (g := gb243) (o := .cells #[.slice Ao27 t240.length co27, .int .i64 0, .slice none 0 0] 25 (0, 0)) (bF_ (bF_ (bF_ (hK_ BK243.out) NB243_261.out) NB243_261.out) NB243_261.out) k_ hk_.2.1), (Kd.freshB (g := gb252) (o := .cells #[.slice Ao32 t244.length co32, .int .i64 t247, .slice Ao35 t248.length co35] 25 (0, 0)) (bF_ (bF_ (bF_ (hK_ BK252.out) NB252_261.out) NB252_261.out) NB252_261.out) k_ hk_.2.1), (Kd.freshB (g := gb261) (o := .cells #[.slice Ao38 t253.length co38, .int .i64 t256, .slice Ao42 t257.length co42] 25 (0, 0)) (bP_ (bP_ (bP_ (hK_ BK261.out)))) k_ hk_.2.1)⟩)) (below_size hC_)); replace HO242 := a_ (Kd.N_mono (Kd.N_told (Kd.N_told (Kd.N_old (by (with_reducible repeat (first | apply Kd.N_alloc | apply Kd.N_drewN | apply Kd.N_drew)); exact (Kd.N_mono (nF_ (nF_ (nF_ (Kd.N_mono HO242.out (fun k_ hk => (⟨hk, hk.2⟩ : _ ∧ k_ ≠ gb261)))))) (fun _ h_ => h_.1))) hb) (Kd.N_base (Kd.R_N (Kd.S_R ho0)))) (Kd.R_base ho1)) (fun _ h_ => h_.1)); replace HO246 := a_ (Kd.N_mono (Kd.N_told (Kd.N_told (Kd.N_old (by (with_reducible repeat (first | apply Kd.N_alloc | apply Kd.N_drewN | apply Kd.N_drew)); exact (Kd.N_mono (nF_ (nF_ (nF_ (Kd.N_mono HO246.out (fun k_ hk => (⟨hk, hk.2⟩ : _ ∧ k_ ≠ gb261)))))) (fun _ h_ => h_.1))) hb) (Kd.N_base (Kd.R_N (Kd.S_R ho0)))) (Kd.R_base ho1)) (fun _ h_ => h_.1)); replace HO255 := a_ (Kd.N_mono (Kd.N_told (Kd.N_told (Kd.N_old (by (with_reducible repeat (first | apply Kd.N_alloc | apply Kd.N_drewN | apply Kd.N_drew)); exact (Kd.N_mono (nF_ (nF_ (nF_ (Kd.N_mono HO255.out (fun k_ hk => (⟨hk, hk.2⟩ : _ ∧ k_ ≠ gb261)))))) (fun _ h_ => h_.1))) hb) (Kd.N_base (Kd.R_N (Kd.S_R ho0)))) (Kd.R_base ho1)) (fun _ h_ => h_.1)); have HO268 := a_ (Kd.R_lower (Kd.R_new' (Kd.R_new' ho1 (Kd.R_lt (by (with_reducible repeat (first | apply Kd.R_alloc | apply Kd.R_drewN | apply Kd.R_drew)); exact (Kd.R_mono (rF_ (rF_ (rF_ (Kd.R_types HO250.out BK261.out (by decide))))) (fun _ h_ => h_.1))))) (Kd.R_lt (by (with_reducible repeat (first | apply Kd.R_alloc | apply Kd.R_drewN | apply Kd.R_drew)); exact (Kd.R_mono (rF_ (rF_ (rF_ (Kd.R_types HO259.out BK261.out (by decide))))) (fun _ h_ => h_.1))))) (below_size hC_)); replace HO250 := a_ (Kd.R_elder' (by (with_reducible repeat (first | apply Kd.R_alloc | apply Kd.R_drewN | apply Kd.R_drew)); exact (Kd.R_mono (rF_ (rF_ (rF_ (Kd.R_types HO250.out BK261.out (by decide))))) (fun _ h_ => h_.1))) (Kd.R_base ho1) hb); replace HO259 := a_ (Kd.R_elder' (by (with_reducible repeat (first | apply Kd.R_alloc | apply Kd.R_drewN | apply Kd.R_drew)); exact (Kd.R_mono (rF_ (rF_ (rF_ (Kd.R_types HO259.out BK261.out (by decide))))) (fun _ h_ => h_.1))) (Kd.R_base ho1) hb); replace BK243 := a_ (blk_below (g := gb243) (o := .cells #[.slice Ao27 t240.length co27, .int .i64 0, .slice none 0 0] 25 (0, 0)) (by (with_reducible repeat (first | refine blk_drewN ?_ _ | refine blk_drew ?_ | refine blk_alloc ?_ _)); exact (bF_ (bF_ (bF_ (hK_ BK243.out) NB243_261.out) NB243_261.out) NB243_261.out)) hb); replace BK252 := a_ (blk_below (g := gb252) (o := .cells #[.slice Ao32 t244.length co32, .int .i64 t247, .slice Ao35 t248.length co35] 25 (0, 0)) (by (with_reducible repeat (first | refine blk_drewN ?_ _ | refine blk_drew ?_ | refine blk_alloc ?_ _)); exact (bF_ (bF_ (bF_ (hK_ BK252.out) NB252_261.out) NB252_261.out) NB252_261.out)) hb); replace BK261 := a_ (blk_below (g := gb261) (o := .cells #[.slice Ao38 t253.length co38, .int .i64 t256, .slice Ao42 t257.length co42] 25 (0, 0)) (by (with_reducible repeat (first | refine blk_drewN ?_ _ | refine blk_drew ?_ | refine blk_alloc ?_ _)); exact (bP_ (bP_ (bP_ (hK_ BK261.out))))) hb); replace HB := a_ (below_step hC_ hb); (try clear hb); (try clear hb2); (try clear hk); (try clear hi); (try clear ho0); (try clear ho1)) | ((with_reducible refine gate_dst (N := 6) rfl ?_); refine boxE_ 6 #[.slice none 0 0, .int .i64 0, .slice none 0 0] 25 ?_; intro gb270 hg w44 hbox hb; replace HO242 := a_ (Kd.N_below (Kd.N_elderB (hN_ HO242.out) gb270 (Nat.le_of_eq hg.symm)) hb); replace HO246 := a_ (Kd.N_below (Kd.N_elderB (hN_ HO246.out) gb270 (Nat.le_of_eq hg.symm)) hb); replace HO250 := a_ (Kd.R_below (hR_ HO250.out) hb); replace HO255 := a_ (Kd.N_below (Kd.N_elderB (hN_ HO255.out) gb270 (Nat.le_of_eq hg.symm)) hb); replace HO259 := a_ (Kd.R_below (hR_ HO259.out) hb); replace HO264 := a_ (Kd.N_below (Kd.N_elderB (hN_ HO264.out) gb270 (Nat.le_of_eq hg.symm)) hb); replace HO268 := a_ (Kd.R_below (hR_ HO268.out) hb); have BK270 := a_ (hbox); have GW270 := a_ ((gE_ hg : w.heap.size ≤ gb270)); have GE270 := a_ ((gE_ hg : w.heap.size ≤ gb270)); replace HB := a_ (below_step hC_ hb); have NB243_270 := a_ ((bL_ BK243.out hg : gb243 ≠ gb270)); have NB270_243 := a_ ((bG_ BK243.out hg : gb270 ≠ gb243)); replace BK243 := a_ (bB_ BK243.out hb); have NB252_270 := a_ ((bL_ BK252.out hg : gb252 ≠ gb270)); have NB270_252 := a_ ((bG_ BK252.out hg : gb270 ≠ gb252)); replace BK252 := a_ (bB_ BK252.out hb); have NB261_270 := a_ ((bL_ BK261.out hg : gb261 ≠ gb270)); have NB270_261 := a_ ((bG_ BK261.out hg : gb270 ≠ gb261)); replace BK261 := a_ (bB_ BK261.out hb); clear hb hbox hg; obtain ⟨Ao45, co45, eo45⟩ := Kd.N_slice HO264.out; subst eo45; have hnb46 := NB270_243.out; have hnc46 := NB243_270.out; have hnb47 := NB270_252.out; have hnc47 := NB252_270.out; have hnb48 := NB270_261.out; have hnc48 := NB261_270.out; obtain ⟨hcz49_0, hcz49_1, hcz49_2, hfz49_0, hfz49_1, hfz49_2⟩ := bx3_ BK270.out; obtain ⟨Ao50, co50, eo50⟩ := Kd.R_slice HO268.out; subst eo50; obtain ⟨hcz51_0, hcz51_1, hcz51_2, hfz51_0, hfz51_1, hfz51_2⟩ := bx3_ BK243.out) | ((with_reducible refine gate_callee (f := 10) rfl ?_); refine goesL_ (some 35) rfl rfl Tryz.func10 (by kernel_rfl) rfl #[.agg #[.slice Ao27 t240.length co27, .int .i64 0, .slice none 0 0]] rfl hL_ ?_; (refine (answer_Undo.calls k _ _ t240 0 _ _ ([] : List (S53)) t271 t274 t275 t278 _ ?side1 ?side2 ?side3 ?side4 A5.out (by first | exact hG | exact GOK.below hG hC_)).mono ?_); (case side1 => refine (Kd.N_reads' (e := 66) (base := w.heap.size) (ok := fun k_ => ((((((((((True ∧ k_ ≠ gb243) ∧ some k_ ≠ (.slice Ao32 t244.length co32 : Value).ownBlock) ∧ some k_ ≠ (.slice Ao35 t248.length co35 : Value).ownBlock) ∧ k_ ≠ gb252) ∧ some k_ ≠ (.slice Ao38 t253.length co38 : Value).ownBlock) ∧ some k_ ≠ (.slice Ao42 t257.length co42 : Value).ownBlock) ∧ k_ ≠ gb261) ∧ some k_ ≠ (.slice Ao45 t262.length co45 : Value).ownBlock) ∧ some k_ ≠ (.slice Ao50 t266.length co50 : Value).ownBlock) ∧ k_ ≠ gb270)) (n := t240.length) (c := co27) ?_).2.2; exact (by (with_reducible repeat (first | apply Kd.N_alloc | apply Kd.N_drewN | apply Kd.N_drew)); exact (Kd.N_mono (nF_ (nF_ (nF_ (Kd.N_mono HO242.out (fun k_ hk => (⟨hk, hk.2⟩ : _ ∧ k_ ≠ gb270)))))) (fun _ h_ => h_.1)))); (case side2 => exact (Kd.N_reads' HO242.out).2.1); (case side3 => exact Kd.C_nil _ _); (case side4 => exact Nat.le_refl _); rintro e w52 ⟨v272, v276, rfl, ho0, ho1, hb⟩; refine ⟨_, rfl, ?_⟩; have HO273 := a_ (Kd.N_lower (Kd.N_mono (ok' := fun k_ => some k_ ≠ (v276 : Value).ownBlock ∧ some k_ ≠ (.slice Ao27 t240.length co27 : Value).ownBlock ∧ some k_ ≠ (.slice Ao32 t244.length co32 : Value).ownBlock ∧ some k_ ≠ (.slice Ao35 t248.length co35 : Value).ownBlock ∧ some k_ ≠ (.slice Ao38 t253.length co38 : Value).ownBlock ∧ some k_ ≠ (.slice Ao42 t257.length co42 : Value).ownBlock ∧ some k_ ≠ (.slice Ao45 t262.length co45 : Value).ownBlock ∧ some k_ ≠ (.slice Ao50 t266.length co50 : Value).ownBlock ∧ k_ ≠ gb243 ∧ k_ ≠ gb252 ∧ k_ ≠ gb261 ∧ k_ ≠ gb270) (Kd.S_N (Kd.S_bound (Kd.S_apart' ho0 (Kd.R_typed ho1) (by decide)))) (fun k_ hk_ => ⟨hk_.1.2, (Kd.fresh' (Kd.N_lt (by (with_reducible repeat (first | apply Kd.N_alloc | apply Kd.N_drewN | apply Kd.N_drew)); exact (Kd.N_mono (nF_ (nF_ (nF_ (Kd.N_mono HO242.out (fun k_ hk => (⟨hk, hk.2⟩ : _ ∧ k_ ≠ gb270)))))) (fun _ h_ => h_.1)))) k_ hk_.2.1), (Kd.fresh' (Kd.N_lt (by (with_reducible repeat (first | apply Kd.N_alloc | apply Kd.N_drewN | apply Kd.N_drew)); exact (Kd.N_mono (nF_ (nF_ (nF_ (Kd.N_mono HO246.out (fun k_ hk => (⟨hk, hk.2⟩ : _ ∧ k_ ≠ gb270)))))) (fun _ h_ => h_.1)))) k_ hk_.2.1), (Kd.fresh' (Kd.R_lt (by (with_reducible repeat (first | apply Kd.R_alloc | apply Kd.R_drewN | apply Kd.R_drew)); exact (Kd.R_mono (rF_ (rF_ (rF_ (Kd.R_types HO250.out BK270.out (by decide))))) (fun _ h_ => h_.1)))) k_ hk_.2.1), (Kd.fresh' (Kd.N_lt (by (with_reducible repeat (first | apply Kd.N_alloc | apply Kd.N_drewN | apply Kd.N_drew)); exact (Kd.N_mono (nF_ (nF_ (nF_ (Kd.N_mono HO255.out (fun k_ hk => (⟨hk, hk.2⟩ : _ ∧ k_ ≠ gb270)))))) (fun _ h_ => h_.1)))) k_ hk_.2.1), (Kd.fresh' (Kd.R_lt (by (with_reducible repeat (first | apply Kd.R_alloc | apply Kd.R_drewN | apply Kd.R_drew)); exact (Kd.R_mono (rF_ (rF_ (rF_ (Kd.R_types HO259.out BK270.out (by decide))))) (fun _ h_ => h_.1)))) k_ hk_.2.1), (Kd.fresh' (Kd.N_lt (by (with_reducible repeat (first | apply Kd.N_alloc | apply Kd.N_drewN | apply Kd.N_drew)); exact (Kd.N_mono (nF_ (nF_ (nF_ (Kd.N_mono HO264.out (fun k_ hk => (⟨hk, hk.2⟩ : _ ∧ k_ ≠ gb270)))))) (fun _ h_ => h_.1)))) k_ hk_.2.1), (Kd.fresh' (Kd.R_lt (by (with_reducible repeat (first | apply Kd.R_alloc | apply Kd.R_drewN | apply Kd.R_drew)); exact (Kd.R_mono (rF_ (rF_ (rF_ (Kd.R_types HO268.out BK270.out (by decide))))) (fun _ h_ => h_.1)))) k_ hk_.2.1), (Kd.freshB (g := gb243) (o := .cells #[.slice Ao27 t240.length co27, .int .i64 0, .slice none 0 0] 25 (0, 0)) (bF_ (bF_ (bF_ (hK_ BK243.out) NB243_270.out) NB243_270.out) NB243_270.out) k_ hk_.2.1), (Kd.freshB (g := gb252) (o := .cells #[.slice Ao32 t244.length co32, .int .i64 t247, .slice Ao35 t248.length co35] 25 (0, 0)) (bF_ (bF_ (bF_ (hK_ BK252.out) NB252_270.out) NB252_270.out) NB252_270.out) k_ hk_.2.1), (Kd.freshB (g := gb261) (o := .cells #[.slice Ao38 t253.length co38, .int .i64 t256, .slice Ao42 t257.length co42] 25 (0, 0)) (bF_ (bF_ (bF_ (hK_ BK261.out) NB261_270.out) NB261_270.out) NB261_270.out) k_ hk_.2.1), (Kd.freshB (g := gb270) (o := .cells #[.slice Ao45 t262.length co45, .int .i64 t265, .slice Ao50 t266.length co50] 25 (0, 0)) (bP_ (bP_ (bP_ (hK_ BK270.out)))) k_ hk_.2.1)⟩)) (below_size hC_)); replace HO242 := a_ (Kd.N_mono (Kd.N_told (Kd.N_told (Kd.N_old (by (with_reducible repeat (first | apply Kd.N_alloc | apply Kd.N_drewN | apply Kd.N_drew)); exact (Kd.N_mono (nF_ (nF_ (nF_ (Kd.N_mono HO242.out (fun k_ hk => (⟨hk, hk.2⟩ : _ ∧ k_ ≠ gb270)))))) (fun _ h_ => h_.1))) hb) (Kd.N_base (Kd.R_N (Kd.S_R ho0)))) (Kd.R_base ho1)) (fun _ h_ => h_.1)); replace HO246 := a_ (Kd.N_mono (Kd.N_told (Kd.N_told (Kd.N_old (by (with_reducible repeat (first | apply Kd.N_alloc | apply Kd.N_drewN | apply Kd.N_drew)); exact (Kd.N_mono (nF_ (nF_ (nF_ (Kd.N_mono HO246.out (fun k_ hk => (⟨hk, hk.2⟩ : _ ∧ k_ ≠ gb270)))))) (fun _ h_ => h_.1))) hb) (Kd.N_base (Kd.R_N (Kd.S_R ho0)))) (Kd.R_base ho1)) (fun _ h_ => h_.1)); replace HO255 := a_ (Kd.N_mono (Kd.N_told (Kd.N_told (Kd.N_old (by (with_reducible repeat (first | apply Kd.N_alloc | apply Kd.N_drewN | apply Kd.N_drew)); exact (Kd.N_mono (nF_ (nF_ (nF_ (Kd.N_mono HO255.out (fun k_ hk => (⟨hk, hk.2⟩ : _ ∧ k_ ≠ gb270)))))) (fun _ h_ => h_.1))) hb) (Kd.N_base (Kd.R_N (Kd.S_R ho0)))) (Kd.R_base ho1)) (fun _ h_ => h_.1)); replace HO264 := a_ (Kd.N_mono (Kd.N_told (Kd.N_told (Kd.N_old (by (with_reducible repeat (first | apply Kd.N_alloc | apply Kd.N_drewN | apply Kd.N_drew)); exact (Kd.N_mono (nF_ (nF_ (nF_ (Kd.N_mono HO264.out (fun k_ hk => (⟨hk, hk.2⟩ : _ ∧ k_ ≠ gb270)))))) (fun _ h_ => h_.1))) hb) (Kd.N_base (Kd.R_N (Kd.S_R ho0)))) (Kd.R_base ho1)) (fun _ h_ => h_.1)); have HO277 := a_ (Kd.R_lower (Kd.R_new' (Kd.R_new' (Kd.R_new' ho1 (Kd.R_lt (by (with_reducible repeat (first | apply Kd.R_alloc | apply Kd.R_drewN | apply Kd.R_drew)); exact (Kd.R_mono (rF_ (rF_ (rF_ (Kd.R_types HO250.out BK270.out (by decide))))) (fun _ h_ => h_.1))))) (Kd.R_lt (by (with_reducible repeat (first | apply Kd.R_alloc | apply Kd.R_drewN | apply Kd.R_drew)); exact (Kd.R_mono (rF_ (rF_ (rF_ (Kd.R_types HO259.out BK270.out (by decide))))) (fun _ h_ => h_.1))))) (Kd.R_lt (by (with_reducible repeat (first | apply Kd.R_alloc | apply Kd.R_drewN | apply Kd.R_drew)); exact (Kd.R_mono (rF_ (rF_ (rF_ (Kd.R_types HO268.out BK270.out (by decide))))) (fun _ h_ => h_.1))))) (below_size hC_)); replace HO250 := a_ (Kd.R_elder' (by (with_reducible repeat (first | apply Kd.R_alloc | apply Kd.R_drewN | apply Kd.R_drew)); exact (Kd.R_mono (rF_ (rF_ (rF_ (Kd.R_types HO250.out BK270.out (by decide))))) (fun _ h_ => h_.1))) (Kd.R_base ho1) hb); replace HO259 := a_ (Kd.R_elder' (by (with_reducible repeat (first | apply Kd.R_alloc | apply Kd.R_drewN | apply Kd.R_drew)); exact (Kd.R_mono (rF_ (rF_ (rF_ (Kd.R_types HO259.out BK270.out (by decide))))) (fun _ h_ => h_.1))) (Kd.R_base ho1) hb); replace HO268 := a_ (Kd.R_elder' (by (with_reducible repeat (first | apply Kd.R_alloc | apply Kd.R_drewN | apply Kd.R_drew)); exact (Kd.R_mono (rF_ (rF_ (rF_ (Kd.R_types HO268.out BK270.out (by decide))))) (fun _ h_ => h_.1))) (Kd.R_base ho1) hb); replace BK243 := a_ (blk_below (g := gb243) (o := .cells #[.slice Ao27 t240.length co27, .int .i64 0, .slice none 0 0] 25 (0, 0)) (by (with_reducible repeat (first | refine blk_drewN ?_ _ | refine blk_drew ?_ | refine blk_alloc ?_ _)); exact (bF_ (bF_ (bF_ (hK_ BK243.out) NB243_270.out) NB243_270.out) NB243_270.out)) hb); replace BK252 := a_ (blk_below (g := gb252) (o := .cells #[.slice Ao32 t244.length co32, .int .i64 t247, .slice Ao35 t248.length co35] 25 (0, 0)) (by (with_reducible repeat (first | refine blk_drewN ?_ _ | refine blk_drew ?_ | refine blk_alloc ?_ _)); exact (bF_ (bF_ (bF_ (hK_ BK252.out) NB252_270.out) NB252_270.out) NB252_270.out)) hb); replace BK261 := a_ (blk_below (g := gb261) (o := .cells #[.slice Ao38 t253.length co38, .int .i64 t256, .slice Ao42 t257.length co42] 25 (0, 0)) (by (with_reducible repeat (first | refine blk_drewN ?_ _ | refine blk_drew ?_ | refine blk_alloc ?_ _)); exact (bF_ (bF_ (bF_ (hK_ BK261.out) NB261_270.out) NB261_270.out) NB261_270.out)) hb); replace BK270 := a_ (blk_below (g := gb270) (o := .cells #[.slice Ao45 t262.length co45, .int .i64 t265, .slice Ao50 t266.length co50] 25 (0, 0)) (by (with_reducible repeat (first | refine blk_drewN ?_ _ | refine blk_drew ?_ | refine blk_alloc ?_ _)); exact (bP_ (bP_ (bP_ (hK_ BK270.out))))) hb); replace HB := a_ (below_step hC_ hb); (try clear hb); (try clear hb2); (try clear hk); (try clear hi); (try clear ho0); (try clear ho1)) | ((with_reducible refine gate_dst (N := 8) rfl ?_); refine boxE_ 8 #[.slice none 0 0, .int .i64 0, .slice none 0 0] 25 ?_; intro gb279 hg w53 hbox hb; replace HO242 := a_ (Kd.N_below (Kd.N_elderB (hN_ HO242.out) gb279 (Nat.le_of_eq hg.symm)) hb); replace HO246 := a_ (Kd.N_below (Kd.N_elderB (hN_ HO246.out) gb279 (Nat.le_of_eq hg.symm)) hb); replace HO250 := a_ (Kd.R_below (hR_ HO250.out) hb); replace HO255 := a_ (Kd.N_below (Kd.N_elderB (hN_ HO255.out) gb279 (Nat.le_of_eq hg.symm)) hb); replace HO259 := a_ (Kd.R_below (hR_ HO259.out) hb); replace HO264 := a_ (Kd.N_below (Kd.N_elderB (hN_ HO264.out) gb279 (Nat.le_of_eq hg.symm)) hb); replace HO268 := a_ (Kd.R_below (hR_ HO268.out) hb); replace HO273 := a_ (Kd.N_below (Kd.N_elderB (hN_ HO273.out) gb279 (Nat.le_of_eq hg.symm)) hb); replace HO277 := a_ (Kd.R_below (hR_ HO277.out) hb); have BK279 := a_ (hbox); have GW279 := a_ ((gE_ hg : w.heap.size ≤ gb279)); have GE279 := a_ ((gE_ hg : w.heap.size ≤ gb279)); replace HB := a_ (below_step hC_ hb); have NB243_279 := a_ ((bL_ BK243.out hg : gb243 ≠ gb279)); have NB279_243 := a_ ((bG_ BK243.out hg : gb279 ≠ gb243)); replace BK243 := a_ (bB_ BK243.out hb); have NB252_279 := a_ ((bL_ BK252.out hg : gb252 ≠ gb279)); have NB279_252 := a_ ((bG_ BK252.out hg : gb279 ≠ gb252)); replace BK252 := a_ (bB_ BK252.out hb); have NB261_279 := a_ ((bL_ BK261.out hg : gb261 ≠ gb279)); have NB279_261 := a_ ((bG_ BK261.out hg : gb279 ≠ gb261)); replace BK261 := a_ (bB_ BK261.out hb); have NB270_279 := a_ ((bL_ BK270.out hg : gb270 ≠ gb279)); have NB279_270 := a_ ((bG_ BK270.out hg : gb279 ≠ gb270)); replace BK270 := a_ (bB_ BK270.out hb); clear hb hbox hg; obtain ⟨Ao54, co54, eo54⟩ := Kd.N_slice HO273.out; subst eo54; have hnb55 := NB279_243.out; have hnc55 := NB243_279.out; have hnb56 := NB279_252.out; have hnc56 := NB252_279.out; have hnb57 := NB279_261.out; have hnc57 := NB261_279.out; have hnb58 := NB279_270.out; have hnc58 := NB270_279.out; obtain ⟨hcz59_0, hcz59_1, hcz59_2, hfz59_0, hfz59_1, hfz59_2⟩ := bx3_ BK279.out; obtain ⟨Ao60, co60, eo60⟩ := Kd.R_slice HO277.out; subst eo60; obtain ⟨hcz61_0, hcz61_1, hcz61_2, hfz61_0, hfz61_1, hfz61_2⟩ := bx3_ BK243.out) | ((with_reducible refine gate_callee (f := 8) rfl ?_); refine goesL_ (some 40) rfl rfl Tryz.func8 (by kernel_rfl) rfl #[.agg #[.slice Ao27 t240.length co27, .int .i64 0, .slice none 0 0], .int .i64 0] rfl hL_ ?_; (refine (answer_Put.calls k _ _ t240 0 _ _ ([] : List (S53)) 0 t280 t283 t284 t287 _ ?side1 ?side2 ?side3 ?side4 A6.out (by first | exact hG | exact GOK.below hG hC_)).mono ?_); (case side1 => refine (Kd.N_reads' (e := 66) (base := w.heap.size) (ok := fun k_ => (((((((((((((True ∧ k_ ≠ gb243) ∧ some k_ ≠ (.slice Ao32 t244.length co32 : Value).ownBlock) ∧ some k_ ≠ (.slice Ao35 t248.length co35 : Value).ownBlock) ∧ k_ ≠ gb252) ∧ some k_ ≠ (.slice Ao38 t253.length co38 : Value).ownBlock) ∧ some k_ ≠ (.slice Ao42 t257.length co42 : Value).ownBlock) ∧ k_ ≠ gb261) ∧ some k_ ≠ (.slice Ao45 t262.length co45 : Value).ownBlock) ∧ some k_ ≠ (.slice Ao50 t266.length co50 : Value).ownBlock) ∧ k_ ≠ gb270) ∧ some k_ ≠ (.slice Ao54 t271.length co54 : Value).ownBlock) ∧ some k_ ≠ (.slice Ao60 t275.length co60 : Value).ownBlock) ∧ k_ ≠ gb279)) (n := t240.length) (c := co27) ?_).2.2; exact (by (with_reducible repeat (first | apply Kd.N_alloc | apply Kd.N_drewN | apply Kd.N_drew)); exact (Kd.N_mono (nF_ (nF_ (nF_ (Kd.N_mono HO242.out (fun k_ hk => (⟨hk, hk.2⟩ : _ ∧ k_ ≠ gb279)))))) (fun _ h_ => h_.1)))); (case side2 => exact (Kd.N_reads' HO242.out).2.1); (case side3 => exact Kd.C_nil _ _); (case side4 => exact Nat.le_refl _); rintro e w62 ⟨v281, v285, rfl, ho0, ho1, hb⟩; refine ⟨_, rfl, ?_⟩; have HO282 := a_ (Kd.N_lower (Kd.N_mono (ok' := fun k_ => some k_ ≠ (v285 : Value).ownBlock ∧ some k_ ≠ (.slice Ao27 t240.length co27 : Value).ownBlock ∧ some k_ ≠ (.slice Ao32 t244.length co32 : Value).ownBlock ∧ some k_ ≠ (.slice Ao35 t248.length co35 : Value).ownBlock ∧ some k_ ≠ (.slice Ao38 t253.length co38 : Value).ownBlock ∧ some k_ ≠ (.slice Ao42 t257.length co42 : Value).ownBlock ∧ some k_ ≠ (.slice Ao45 t262.length co45 : Value).ownBlock ∧ some k_ ≠ (.slice Ao50 t266.length co50 : Value).ownBlock ∧ some k_ ≠ (.slice Ao54 t271.length co54 : Value).ownBlock ∧ some k_ ≠ (.slice Ao60 t275.length co60 : Value).ownBlock ∧ k_ ≠ gb243 ∧ k_ ≠ gb252 ∧ k_ ≠ gb261 ∧ k_ ≠ gb270 ∧ k_ ≠ gb279) (Kd.S_N (Kd.S_bound (Kd.S_apart' ho0 (Kd.R_typed ho1) (by decide)))) (fun k_ hk_ => ⟨hk_.1.2, (Kd.fresh' (Kd.N_lt (by (with_reducible repeat (first | apply Kd.N_alloc | apply Kd.N_drewN | apply Kd.N_drew)); exact (Kd.N_mono (nF_ (nF_ (nF_ (Kd.N_mono HO242.out (fun k_ hk => (⟨hk, hk.2⟩ : _ ∧ k_ ≠ gb279)))))) (fun _ h_ => h_.1)))) k_ hk_.2.1), (Kd.fresh' (Kd.N_lt (by (with_reducible repeat (first | apply Kd.N_alloc | apply Kd.N_drewN | apply Kd.N_drew)); exact (Kd.N_mono (nF_ (nF_ (nF_ (Kd.N_mono HO246.out (fun k_ hk => (⟨hk, hk.2⟩ : _ ∧ k_ ≠ gb279)))))) (fun _ h_ => h_.1)))) k_ hk_.2.1), (Kd.fresh' (Kd.R_lt (by (with_reducible repeat (first | apply Kd.R_alloc | apply Kd.R_drewN | apply Kd.R_drew)); exact (Kd.R_mono (rF_ (rF_ (rF_ (Kd.R_types HO250.out BK279.out (by decide))))) (fun _ h_ => h_.1)))) k_ hk_.2.1), (Kd.fresh' (Kd.N_lt (by (with_reducible repeat (first | apply Kd.N_alloc | apply Kd.N_drewN | apply Kd.N_drew)); exact (Kd.N_mono (nF_ (nF_ (nF_ (Kd.N_mono HO255.out (fun k_ hk => (⟨hk, hk.2⟩ : _ ∧ k_ ≠ gb279)))))) (fun _ h_ => h_.1)))) k_ hk_.2.1), (Kd.fresh' (Kd.R_lt (by (with_reducible repeat (first | apply Kd.R_alloc | apply Kd.R_drewN | apply Kd.R_drew)); exact (Kd.R_mono (rF_ (rF_ (rF_ (Kd.R_types HO259.out BK279.out (by decide))))) (fun _ h_ => h_.1)))) k_ hk_.2.1), (Kd.fresh' (Kd.N_lt (by (with_reducible repeat (first | apply Kd.N_alloc | apply Kd.N_drewN | apply Kd.N_drew)); exact (Kd.N_mono (nF_ (nF_ (nF_ (Kd.N_mono HO264.out (fun k_ hk => (⟨hk, hk.2⟩ : _ ∧ k_ ≠ gb279)))))) (fun _ h_ => h_.1)))) k_ hk_.2.1), (Kd.fresh' (Kd.R_lt (by (with_reducible repeat (first | apply Kd.R_alloc | apply Kd.R_drewN | apply Kd.R_drew)); exact (Kd.R_mono (rF_ (rF_ (rF_ (Kd.R_types HO268.out BK279.out (by decide))))) (fun _ h_ => h_.1)))) k_ hk_.2.1), (Kd.fresh' (Kd.N_lt (by (with_reducible repeat (first | apply Kd.N_alloc | apply Kd.N_drewN | apply Kd.N_drew)); exact (Kd.N_mono (nF_ (nF_ (nF_ (Kd.N_mono HO273.out (fun k_ hk => (⟨hk, hk.2⟩ : _ ∧ k_ ≠ gb279)))))) (fun _ h_ => h_.1)))) k_ hk_.2.1), (Kd.fresh' (Kd.R_lt (by (with_reducible repeat (first | apply Kd.R_alloc | apply Kd.R_drewN | apply Kd.R_drew)); exact (Kd.R_mono (rF_ (rF_ (rF_ (Kd.R_types HO277.out BK279.out (by decide))))) (fun _ h_ => h_.1)))) k_ hk_.2.1), (Kd.freshB (g := gb243) (o := .cells #[.slice Ao27 t240.length co27, .int .i64 0, .slice none 0 0] 25 (0, 0)) (bF_ (bF_ (bF_ (hK_ BK243.out) NB243_279.out) NB243_279.out) NB243_279.out) k_ hk_.2.1), (Kd.freshB (g := gb252) (o := .cells #[.slice Ao32 t244.length co32, .int .i64 t247, .slice Ao35 t248.length co35] 25 (0, 0)) (bF_ (bF_ (bF_ (hK_ BK252.out) NB252_279.out) NB252_279.out) NB252_279.out) k_ hk_.2.1), (Kd.freshB (g := gb261) (o := .cells #[.slice Ao38 t253.length co38, .int .i64 t256, .slice Ao42 t257.length co42] 25 (0, 0)) (bF_ (bF_ (bF_ (hK_ BK261.out) NB261_279.out) NB261_279.out) NB261_279.out) k_ hk_.2.1), (Kd.freshB (g := gb270) (o := .cells #[.slice Ao45 t262.length co45, .int .i64 t265, .slice Ao50 t266.length co50] 25 (0, 0)) (bF_ (bF_ (bF_ (hK_ BK270.out) NB270_279.out) NB270_279.out) NB270_279.out) k_ hk_.2.1), (Kd.freshB (g := gb279) (o := .cells #[.slice Ao54 t271.length co54, .int .i64 t274, .slice Ao60 t275.length co60] 25 (0, 0)) (bP_ (bP_ (bP_ (hK_ BK279.out)))) k_ hk_.2.1)⟩)) (below_size hC_)); replace HO242 := a_ (Kd.N_mono (Kd.N_told (Kd.N_told (Kd.N_old (by (with_reducible repeat (first | apply Kd.N_alloc | apply Kd.N_drewN | apply Kd.N_drew)); exact (Kd.N_mono (nF_ (nF_ (nF_ (Kd.N_mono HO242.out (fun k_ hk => (⟨hk, hk.2⟩ : _ ∧ k_ ≠ gb279)))))) (fun _ h_ => h_.1))) hb) (Kd.N_base (Kd.R_N (Kd.S_R ho0)))) (Kd.R_base ho1)) (fun _ h_ => h_.1)); replace HO246 := a_ (Kd.N_mono (Kd.N_told (Kd.N_told (Kd.N_old (by (with_reducible repeat (first | apply Kd.N_alloc | apply Kd.N_drewN | apply Kd.N_drew)); exact (Kd.N_mono (nF_ (nF_ (nF_ (Kd.N_mono HO246.out (fun k_ hk => (⟨hk, hk.2⟩ : _ ∧ k_ ≠ gb279)))))) (fun _ h_ => h_.1))) hb) (Kd.N_base (Kd.R_N (Kd.S_R ho0)))) (Kd.R_base ho1)) (fun _ h_ => h_.1)); replace HO255 := a_ (Kd.N_mono (Kd.N_told (Kd.N_told (Kd.N_old (by (with_reducible repeat (first | apply Kd.N_alloc | apply Kd.N_drewN | apply Kd.N_drew)); exact (Kd.N_mono (nF_ (nF_ (nF_ (Kd.N_mono HO255.out (fun k_ hk => (⟨hk, hk.2⟩ : _ ∧ k_ ≠ gb279)))))) (fun _ h_ => h_.1))) hb) (Kd.N_base (Kd.R_N (Kd.S_R ho0)))) (Kd.R_base ho1)) (fun _ h_ => h_.1)); replace HO264 := a_ (Kd.N_mono (Kd.N_told (Kd.N_told (Kd.N_old (by (with_reducible repeat (first | apply Kd.N_alloc | apply Kd.N_drewN | apply Kd.N_drew)); exact (Kd.N_mono (nF_ (nF_ (nF_ (Kd.N_mono HO264.out (fun k_ hk => (⟨hk, hk.2⟩ : _ ∧ k_ ≠ gb279)))))) (fun _ h_ => h_.1))) hb) (Kd.N_base (Kd.R_N (Kd.S_R ho0)))) (Kd.R_base ho1)) (fun _ h_ => h_.1)); replace HO273 := a_ (Kd.N_mono (Kd.N_told (Kd.N_told (Kd.N_old (by (with_reducible repeat (first | apply Kd.N_alloc | apply Kd.N_drewN | apply Kd.N_drew)); exact (Kd.N_mono (nF_ (nF_ (nF_ (Kd.N_mono HO273.out (fun k_ hk => (⟨hk, hk.2⟩ : _ ∧ k_ ≠ gb279)))))) (fun _ h_ => h_.1))) hb) (Kd.N_base (Kd.R_N (Kd.S_R ho0)))) (Kd.R_base ho1)) (fun _ h_ => h_.1)); have HO286 := a_ (Kd.R_lower (Kd.R_new' (Kd.R_new' (Kd.R_new' (Kd.R_new' ho1 (Kd.R_lt (by (with_reducible repeat (first | apply Kd.R_alloc | apply Kd.R_drewN | apply Kd.R_drew)); exact (Kd.R_mono (rF_ (rF_ (rF_ (Kd.R_types HO250.out BK279.out (by decide))))) (fun _ h_ => h_.1))))) (Kd.R_lt (by (with_reducible repeat (first | apply Kd.R_alloc | apply Kd.R_drewN | apply Kd.R_drew)); exact (Kd.R_mono (rF_ (rF_ (rF_ (Kd.R_types HO259.out BK279.out (by decide))))) (fun _ h_ => h_.1))))) (Kd.R_lt (by (with_reducible repeat (first | apply Kd.R_alloc | apply Kd.R_drewN | apply Kd.R_drew)); exact (Kd.R_mono (rF_ (rF_ (rF_ (Kd.R_types HO268.out BK279.out (by decide))))) (fun _ h_ => h_.1))))) (Kd.R_lt (by (with_reducible repeat (first | apply Kd.R_alloc | apply Kd.R_drewN | apply Kd.R_drew)); exact (Kd.R_mono (rF_ (rF_ (rF_ (Kd.R_types HO277.out BK279.out (by decide))))) (fun _ h_ => h_.1))))) (below_size hC_)); replace HO250 := a_ (Kd.R_elder' (by (with_reducible repeat (first | apply Kd.R_alloc | apply Kd.R_drewN | apply Kd.R_drew)); exact (Kd.R_mono (rF_ (rF_ (rF_ (Kd.R_types HO250.out BK279.out (by decide))))) (fun _ h_ => h_.1))) (Kd.R_base ho1) hb); replace HO259 := a_ (Kd.R_elder' (by (with_reducible repeat (first | apply Kd.R_alloc | apply Kd.R_drewN | apply Kd.R_drew)); exact (Kd.R_mono (rF_ (rF_ (rF_ (Kd.R_types HO259.out BK279.out (by decide))))) (fun _ h_ => h_.1))) (Kd.R_base ho1) hb); replace HO268 := a_ (Kd.R_elder' (by (with_reducible repeat (first | apply Kd.R_alloc | apply Kd.R_drewN | apply Kd.R_drew)); exact (Kd.R_mono (rF_ (rF_ (rF_ (Kd.R_types HO268.out BK279.out (by decide))))) (fun _ h_ => h_.1))) (Kd.R_base ho1) hb); replace HO277 := a_ (Kd.R_elder' (by (with_reducible repeat (first | apply Kd.R_alloc | apply Kd.R_drewN | apply Kd.R_drew)); exact (Kd.R_mono (rF_ (rF_ (rF_ (Kd.R_types HO277.out BK279.out (by decide))))) (fun _ h_ => h_.1))) (Kd.R_base ho1) hb); replace BK243 := a_ (blk_below (g := gb243) (o := .cells #[.slice Ao27 t240.length co27, .int .i64 0, .slice none 0 0] 25 (0, 0)) (by (with_reducible repeat (first | refine blk_drewN ?_ _ | refine blk_drew ?_ | refine blk_alloc ?_ _)); exact (bF_ (bF_ (bF_ (hK_ BK243.out) NB243_279.out) NB243_279.out) NB243_279.out)) hb); replace BK252 := a_ (blk_below (g := gb252) (o := .cells #[.slice Ao32 t244.length co32, .int .i64 t247, .slice Ao35 t248.length co35] 25 (0, 0)) (by (with_reducible repeat (first | refine blk_drewN ?_ _ | refine blk_drew ?_ | refine blk_alloc ?_ _)); exact (bF_ (bF_ (bF_ (hK_ BK252.out) NB252_279.out) NB252_279.out) NB252_279.out)) hb); replace BK261 := a_ (blk_below (g := gb261) (o := .cells #[.slice Ao38 t253.length co38, .int .i64 t256, .slice Ao42 t257.length co42] 25 (0, 0)) (by (with_reducible repeat (first | refine blk_drewN ?_ _ | refine blk_drew ?_ | refine blk_alloc ?_ _)); exact (bF_ (bF_ (bF_ (hK_ BK261.out) NB261_279.out) NB261_279.out) NB261_279.out)) hb); replace BK270 := a_ (blk_below (g := gb270) (o := .cells #[.slice Ao45 t262.length co45, .int .i64 t265, .slice Ao50 t266.length co50] 25 (0, 0)) (by (with_reducible repeat (first | refine blk_drewN ?_ _ | refine blk_drew ?_ | refine blk_alloc ?_ _)); exact (bF_ (bF_ (bF_ (hK_ BK270.out) NB270_279.out) NB270_279.out) NB270_279.out)) hb); replace BK279 := a_ (blk_below (g := gb279) (o := .cells #[.slice Ao54 t271.length co54, .int .i64 t274, .slice Ao60 t275.length co60] 25 (0, 0)) (by (with_reducible repeat (first | refine blk_drewN ?_ _ | refine blk_drew ?_ | refine blk_alloc ?_ _)); exact (bP_ (bP_ (bP_ (hK_ BK279.out))))) hb); replace HB := a_ (below_step hC_ hb); (try clear hb); (try clear hb2); (try clear hk); (try clear hi); (try clear ho0); (try clear ho1)) | ((with_reducible refine gate_dst (N := 10) rfl ?_); refine boxE_ 10 #[.slice none 0 0, .int .i64 0, .slice none 0 0] 25 ?_; intro gb288 hg w63 hbox hb; replace HO242 := a_ (Kd.N_below (Kd.N_elderB (hN_ HO242.out) gb288 (Nat.le_of_eq hg.symm)) hb); replace HO246 := a_ (Kd.N_below (Kd.N_elderB (hN_ HO246.out) gb288 (Nat.le_of_eq hg.symm)) hb); replace HO250 := a_ (Kd.R_below (hR_ HO250.out) hb); replace HO255 := a_ (Kd.N_below (Kd.N_elderB (hN_ HO255.out) gb288 (Nat.le_of_eq hg.symm)) hb); replace HO259 := a_ (Kd.R_below (hR_ HO259.out) hb); replace HO264 := a_ (Kd.N_below (Kd.N_elderB (hN_ HO264.out) gb288 (Nat.le_of_eq hg.symm)) hb); replace HO268 := a_ (Kd.R_below (hR_ HO268.out) hb); replace HO273 := a_ (Kd.N_below (Kd.N_elderB (hN_ HO273.out) gb288 (Nat.le_of_eq hg.symm)) hb); replace HO277 := a_ (Kd.R_below (hR_ HO277.out) hb); replace HO282 := a_ (Kd.N_below (Kd.N_elderB (hN_ HO282.out) gb288 (Nat.le_of_eq hg.symm)) hb); replace HO286 := a_ (Kd.R_below (hR_ HO286.out) hb); have BK288 := a_ (hbox); have GW288 := a_ ((gE_ hg : w.heap.size ≤ gb288)); have GE288 := a_ ((gE_ hg : w.heap.size ≤ gb288)); replace HB := a_ (below_step hC_ hb); have NB243_288 := a_ ((bL_ BK243.out hg : gb243 ≠ gb288)); have NB288_243 := a_ ((bG_ BK243.out hg : gb288 ≠ gb243)); replace BK243 := a_ (bB_ BK243.out hb); have NB252_288 := a_ ((bL_ BK252.out hg : gb252 ≠ gb288)); have NB288_252 := a_ ((bG_ BK252.out hg : gb288 ≠ gb252)); replace BK252 := a_ (bB_ BK252.out hb); have NB261_288 := a_ ((bL_ BK261.out hg : gb261 ≠ gb288)); have NB288_261 := a_ ((bG_ BK261.out hg : gb288 ≠ gb261)); replace BK261 := a_ (bB_ BK261.out hb); have NB270_288 := a_ ((bL_ BK270.out hg : gb270 ≠ gb288)); have NB288_270 := a_ ((bG_ BK270.out hg : gb288 ≠ gb270)); replace BK270 := a_ (bB_ BK270.out hb); have NB279_288 := a_ ((bL_ BK279.out hg : gb279 ≠ gb288)); have NB288_279 := a_ ((bG_ BK279.out hg : gb288 ≠ gb279)); replace BK279 := a_ (bB_ BK279.out hb); clear hb hbox hg; obtain ⟨Ao64, co64, eo64⟩ := Kd.N_slice HO282.out; subst eo64; have hnb65 := NB288_243.out; have hnc65 := NB243_288.out; have hnb66 := NB288_252.out; have hnc66 := NB252_288.out; have hnb67 := NB288_261.out; have hnc67 := NB261_288.out; have hnb68 := NB288_270.out; have hnc68 := NB270_288.out; have hnb69 := NB288_279.out; have hnc69 := NB279_288.out; obtain ⟨hcz70_0, hcz70_1, hcz70_2, hfz70_0, hfz70_1, hfz70_2⟩ := bx3_ BK288.out; obtain ⟨Ao71, co71, eo71⟩ := Kd.R_slice HO286.out; subst eo71; obtain ⟨hcz72_0, hcz72_1, hcz72_2, hfz72_0, hfz72_1, hfz72_2⟩ := bx3_ BK243.out) | ((with_reducible refine gate_callee (f := 8) rfl ?_); refine goesL_ (some 45) rfl rfl Tryz.func8 (by kernel_rfl) rfl #[.agg #[.slice Ao27 t240.length co27, .int .i64 0, .slice none 0 0], .int .i64 1] rfl hL_ ?_; (refine (answer_Put.calls k _ _ t240 0 _ _ ([] : List (S53)) 1 t289 t292 t293 t296 _ ?side1 ?side2 ?side3 ?side4 A7.out (by first | exact hG | exact GOK.below hG hC_)).mono ?_); (case side1 => refine (Kd.N_reads' (e := 66) (base := w.heap.size) (ok := fun k_ => ((((((((((((((((True ∧ k_ ≠ gb243) ∧ some k_ ≠ (.slice Ao32 t244.length co32 : Value).ownBlock) ∧ some k_ ≠ (.slice Ao35 t248.length co35 : Value).ownBlock) ∧ k_ ≠ gb252) ∧ some k_ ≠ (.slice Ao38 t253.length co38 : Value).ownBlock) ∧ some k_ ≠ (.slice Ao42 t257.length co42 : Value).ownBlock) ∧ k_ ≠ gb261) ∧ some k_ ≠ (.slice Ao45 t262.length co45 : Value).ownBlock) ∧ some k_ ≠ (.slice Ao50 t266.length co50 : Value).ownBlock) ∧ k_ ≠ gb270) ∧ some k_ ≠ (.slice Ao54 t271.length co54 : Value).ownBlock) ∧ some k_ ≠ (.slice Ao60 t275.length co60 : Value).ownBlock) ∧ k_ ≠ gb279) ∧ some k_ ≠ (.slice Ao64 t280.length co64 : Value).ownBlock) ∧ some k_ ≠ (.slice Ao71 t284.length co71 : Value).ownBlock) ∧ k_ ≠ gb288)) (n := t240.length) (c := co27) ?_).2.2; exact (by (with_reducible repeat (first | apply Kd.N_alloc | apply Kd.N_drewN | apply Kd.N_drew)); exact (Kd.N_mono (nF_ (nF_ (nF_ (Kd.N_mono HO242.out (fun k_ hk => (⟨hk, hk.2⟩ : _ ∧ k_ ≠ gb288)))))) (fun _ h_ => h_.1)))); (case side2 => exact (Kd.N_reads' HO242.out).2.1); (case side3 => exact Kd.C_nil _ _); (case side4 => exact Nat.le_refl _); rintro e w73 ⟨v290, v294, rfl, ho0, ho1, hb⟩; refine ⟨_, rfl, ?_⟩; have HO291 := a_ (Kd.N_lower (Kd.N_mono (ok' := fun k_ => some k_ ≠ (v294 : Value).ownBlock ∧ some k_ ≠ (.slice Ao27 t240.length co27 : Value).ownBlock ∧ some k_ ≠ (.slice Ao32 t244.length co32 : Value).ownBlock ∧ some k_ ≠ (.slice Ao35 t248.length co35 : Value).ownBlock ∧ some k_ ≠ (.slice Ao38 t253.length co38 : Value).ownBlock ∧ some k_ ≠ (.slice Ao42 t257.length co42 : Value).ownBlock ∧ some k_ ≠ (.slice Ao45 t262.length co45 : Value).ownBlock ∧ some k_ ≠ (.slice Ao50 t266.length co50 : Value).ownBlock ∧ some k_ ≠ (.slice Ao54 t271.length co54 : Value).ownBlock ∧ some k_ ≠ (.slice Ao60 t275.length co60 : Value).ownBlock ∧ some k_ ≠ (.slice Ao64 t280.length co64 : Value).ownBlock ∧ some k_ ≠ (.slice Ao71 t284.length co71 : Value).ownBlock ∧ k_ ≠ gb243 ∧ k_ ≠ gb252 ∧ k_ ≠ gb261 ∧ k_ ≠ gb270 ∧ k_ ≠ gb279 ∧ k_ ≠ gb288) (Kd.S_N (Kd.S_bound (Kd.S_apart' ho0 (Kd.R_typed ho1) (by decide)))) (fun k_ hk_ => ⟨hk_.1.2, (Kd.fresh' (Kd.N_lt (by (with_reducible repeat (first | apply Kd.N_alloc | apply Kd.N_drewN | apply Kd.N_drew)); exact (Kd.N_mono (nF_ (nF_ (nF_ (Kd.N_mono HO242.out (fun k_ hk => (⟨hk, hk.2⟩ : _ ∧ k_ ≠ gb288)))))) (fun _ h_ => h_.1)))) k_ hk_.2.1), (Kd.fresh' (Kd.N_lt (by (with_reducible repeat (first | apply Kd.N_alloc | apply Kd.N_drewN | apply Kd.N_drew)); exact (Kd.N_mono (nF_ (nF_ (nF_ (Kd.N_mono HO246.out (fun k_ hk => (⟨hk, hk.2⟩ : _ ∧ k_ ≠ gb288)))))) (fun _ h_ => h_.1)))) k_ hk_.2.1), (Kd.fresh' (Kd.R_lt (by (with_reducible repeat (first | apply Kd.R_alloc | apply Kd.R_drewN | apply Kd.R_drew)); exact (Kd.R_mono (rF_ (rF_ (rF_ (Kd.R_types HO250.out BK288.out (by decide))))) (fun _ h_ => h_.1)))) k_ hk_.2.1), (Kd.fresh' (Kd.N_lt (by (with_reducible repeat (first | apply Kd.N_alloc | apply Kd.N_drewN | apply Kd.N_drew)); exact (Kd.N_mono (nF_ (nF_ (nF_ (Kd.N_mono HO255.out (fun k_ hk => (⟨hk, hk.2⟩ : _ ∧ k_ ≠ gb288)))))) (fun _ h_ => h_.1)))) k_ hk_.2.1), (Kd.fresh' (Kd.R_lt (by (with_reducible repeat (first | apply Kd.R_alloc | apply Kd.R_drewN | apply Kd.R_drew)); exact (Kd.R_mono (rF_ (rF_ (rF_ (Kd.R_types HO259.out BK288.out (by decide))))) (fun _ h_ => h_.1)))) k_ hk_.2.1), (Kd.fresh' (Kd.N_lt (by (with_reducible repeat (first | apply Kd.N_alloc | apply Kd.N_drewN | apply Kd.N_drew)); exact (Kd.N_mono (nF_ (nF_ (nF_ (Kd.N_mono HO264.out (fun k_ hk => (⟨hk, hk.2⟩ : _ ∧ k_ ≠ gb288)))))) (fun _ h_ => h_.1)))) k_ hk_.2.1), (Kd.fresh' (Kd.R_lt (by (with_reducible repeat (first | apply Kd.R_alloc | apply Kd.R_drewN | apply Kd.R_drew)); exact (Kd.R_mono (rF_ (rF_ (rF_ (Kd.R_types HO268.out BK288.out (by decide))))) (fun _ h_ => h_.1)))) k_ hk_.2.1), (Kd.fresh' (Kd.N_lt (by (with_reducible repeat (first | apply Kd.N_alloc | apply Kd.N_drewN | apply Kd.N_drew)); exact (Kd.N_mono (nF_ (nF_ (nF_ (Kd.N_mono HO273.out (fun k_ hk => (⟨hk, hk.2⟩ : _ ∧ k_ ≠ gb288)))))) (fun _ h_ => h_.1)))) k_ hk_.2.1), (Kd.fresh' (Kd.R_lt (by (with_reducible repeat (first | apply Kd.R_alloc | apply Kd.R_drewN | apply Kd.R_drew)); exact (Kd.R_mono (rF_ (rF_ (rF_ (Kd.R_types HO277.out BK288.out (by decide))))) (fun _ h_ => h_.1)))) k_ hk_.2.1), (Kd.fresh' (Kd.N_lt (by (with_reducible repeat (first | apply Kd.N_alloc | apply Kd.N_drewN | apply Kd.N_drew)); exact (Kd.N_mono (nF_ (nF_ (nF_ (Kd.N_mono HO282.out (fun k_ hk => (⟨hk, hk.2⟩ : _ ∧ k_ ≠ gb288)))))) (fun _ h_ => h_.1)))) k_ hk_.2.1), (Kd.fresh' (Kd.R_lt (by (with_reducible repeat (first | apply Kd.R_alloc | apply Kd.R_drewN | apply Kd.R_drew)); exact (Kd.R_mono (rF_ (rF_ (rF_ (Kd.R_types HO286.out BK288.out (by decide))))) (fun _ h_ => h_.1)))) k_ hk_.2.1), (Kd.freshB (g := gb243) (o := .cells #[.slice Ao27 t240.length co27, .int .i64 0, .slice none 0 0] 25 (0, 0)) (bF_ (bF_ (bF_ (hK_ BK243.out) NB243_288.out) NB243_288.out) NB243_288.out) k_ hk_.2.1), (Kd.freshB (g := gb252) (o := .cells #[.slice Ao32 t244.length co32, .int .i64 t247, .slice Ao35 t248.length co35] 25 (0, 0)) (bF_ (bF_ (bF_ (hK_ BK252.out) NB252_288.out) NB252_288.out) NB252_288.out) k_ hk_.2.1), (Kd.freshB (g := gb261) (o := .cells #[.slice Ao38 t253.length co38, .int .i64 t256, .slice Ao42 t257.length co42] 25 (0, 0)) (bF_ (bF_ (bF_ (hK_ BK261.out) NB261_288.out) NB261_288.out) NB261_288.out) k_ hk_.2.1), (Kd.freshB (g := gb270) (o := .cells #[.slice Ao45 t262.length co45, .int .i64 t265, .slice Ao50 t266.length co50] 25 (0, 0)) (bF_ (bF_ (bF_ (hK_ BK270.out) NB270_288.out) NB270_288.out) NB270_288.out) k_ hk_.2.1), (Kd.freshB (g := gb279) (o := .cells #[.slice Ao54 t271.length co54, .int .i64 t274, .slice Ao60 t275.length co60] 25 (0, 0)) (bF_ (bF_ (bF_ (hK_ BK279.out) NB279_288.out) NB279_288.out) NB279_288.out) k_ hk_.2.1), (Kd.freshB (g := gb288) (o := .cells #[.slice Ao64 t280.length co64, .int .i64 t283, .slice Ao71 t284.length co71] 25 (0, 0)) (bP_ (bP_ (bP_ (hK_ BK288.out)))) k_ hk_.2.1)⟩)) (below_size hC_)); replace HO242 := a_ (Kd.N_mono (Kd.N_told (Kd.N_told (Kd.N_old (by (with_reducible repeat (first | apply Kd.N_alloc | apply Kd.N_drewN | apply Kd.N_drew)); exact (Kd.N_mono (nF_ (nF_ (nF_ (Kd.N_mono HO242.out (fun k_ hk => (⟨hk, hk.2⟩ : _ ∧ k_ ≠ gb288)))))) (fun _ h_ => h_.1))) hb) (Kd.N_base (Kd.R_N (Kd.S_R ho0)))) (Kd.R_base ho1)) (fun _ h_ => h_.1)); replace HO246 := a_ (Kd.N_mono (Kd.N_told (Kd.N_told (Kd.N_old (by (with_reducible repeat (first | apply Kd.N_alloc | apply Kd.N_drewN | apply Kd.N_drew)); exact (Kd.N_mono (nF_ (nF_ (nF_ (Kd.N_mono HO246.out (fun k_ hk => (⟨hk, hk.2⟩ : _ ∧ k_ ≠ gb288)))))) (fun _ h_ => h_.1))) hb) (Kd.N_base (Kd.R_N (Kd.S_R ho0)))) (Kd.R_base ho1)) (fun _ h_ => h_.1)); replace HO255 := a_ (Kd.N_mono (Kd.N_told (Kd.N_told (Kd.N_old (by (with_reducible repeat (first | apply Kd.N_alloc | apply Kd.N_drewN | apply Kd.N_drew)); exact (Kd.N_mono (nF_ (nF_ (nF_ (Kd.N_mono HO255.out (fun k_ hk => (⟨hk, hk.2⟩ : _ ∧ k_ ≠ gb288)))))) (fun _ h_ => h_.1))) hb) (Kd.N_base (Kd.R_N (Kd.S_R ho0)))) (Kd.R_base ho1)) (fun _ h_ => h_.1)); replace HO264 := a_ (Kd.N_mono (Kd.N_told (Kd.N_told (Kd.N_old (by (with_reducible repeat (first | apply Kd.N_alloc | apply Kd.N_drewN | apply Kd.N_drew)); exact (Kd.N_mono (nF_ (nF_ (nF_ (Kd.N_mono HO264.out (fun k_ hk => (⟨hk, hk.2⟩ : _ ∧ k_ ≠ gb288)))))) (fun _ h_ => h_.1))) hb) (Kd.N_base (Kd.R_N (Kd.S_R ho0)))) (Kd.R_base ho1)) (fun _ h_ => h_.1)); replace HO273 := a_ (Kd.N_mono (Kd.N_told (Kd.N_told (Kd.N_old (by (with_reducible repeat (first | apply Kd.N_alloc | apply Kd.N_drewN | apply Kd.N_drew)); exact (Kd.N_mono (nF_ (nF_ (nF_ (Kd.N_mono HO273.out (fun k_ hk => (⟨hk, hk.2⟩ : _ ∧ k_ ≠ gb288)))))) (fun _ h_ => h_.1))) hb) (Kd.N_base (Kd.R_N (Kd.S_R ho0)))) (Kd.R_base ho1)) (fun _ h_ => h_.1)); replace HO282 := a_ (Kd.N_mono (Kd.N_told (Kd.N_told (Kd.N_old (by (with_reducible repeat (first | apply Kd.N_alloc | apply Kd.N_drewN | apply Kd.N_drew)); exact (Kd.N_mono (nF_ (nF_ (nF_ (Kd.N_mono HO282.out (fun k_ hk => (⟨hk, hk.2⟩ : _ ∧ k_ ≠ gb288)))))) (fun _ h_ => h_.1))) hb) (Kd.N_base (Kd.R_N (Kd.S_R ho0)))) (Kd.R_base ho1)) (fun _ h_ => h_.1)); have HO295 := a_ (Kd.R_lower (Kd.R_new' (Kd.R_new' (Kd.R_new' (Kd.R_new' (Kd.R_new' ho1 (Kd.R_lt (by (with_reducible repeat (first | apply Kd.R_alloc | apply Kd.R_drewN | apply Kd.R_drew)); exact (Kd.R_mono (rF_ (rF_ (rF_ (Kd.R_types HO250.out BK288.out (by decide))))) (fun _ h_ => h_.1))))) (Kd.R_lt (by (with_reducible repeat (first | apply Kd.R_alloc | apply Kd.R_drewN | apply Kd.R_drew)); exact (Kd.R_mono (rF_ (rF_ (rF_ (Kd.R_types HO259.out BK288.out (by decide))))) (fun _ h_ => h_.1))))) (Kd.R_lt (by (with_reducible repeat (first | apply Kd.R_alloc | apply Kd.R_drewN | apply Kd.R_drew)); exact (Kd.R_mono (rF_ (rF_ (rF_ (Kd.R_types HO268.out BK288.out (by decide))))) (fun _ h_ => h_.1))))) (Kd.R_lt (by (with_reducible repeat (first | apply Kd.R_alloc | apply Kd.R_drewN | apply Kd.R_drew)); exact (Kd.R_mono (rF_ (rF_ (rF_ (Kd.R_types HO277.out BK288.out (by decide))))) (fun _ h_ => h_.1))))) (Kd.R_lt (by (with_reducible repeat (first | apply Kd.R_alloc | apply Kd.R_drewN | apply Kd.R_drew)); exact (Kd.R_mono (rF_ (rF_ (rF_ (Kd.R_types HO286.out BK288.out (by decide))))) (fun _ h_ => h_.1))))) (below_size hC_)); replace HO250 := a_ (Kd.R_elder' (by (with_reducible repeat (first | apply Kd.R_alloc | apply Kd.R_drewN | apply Kd.R_drew)); exact (Kd.R_mono (rF_ (rF_ (rF_ (Kd.R_types HO250.out BK288.out (by decide))))) (fun _ h_ => h_.1))) (Kd.R_base ho1) hb); replace HO259 := a_ (Kd.R_elder' (by (with_reducible repeat (first | apply Kd.R_alloc | apply Kd.R_drewN | apply Kd.R_drew)); exact (Kd.R_mono (rF_ (rF_ (rF_ (Kd.R_types HO259.out BK288.out (by decide))))) (fun _ h_ => h_.1))) (Kd.R_base ho1) hb); replace HO268 := a_ (Kd.R_elder' (by (with_reducible repeat (first | apply Kd.R_alloc | apply Kd.R_drewN | apply Kd.R_drew)); exact (Kd.R_mono (rF_ (rF_ (rF_ (Kd.R_types HO268.out BK288.out (by decide))))) (fun _ h_ => h_.1))) (Kd.R_base ho1) hb); replace HO277 := a_ (Kd.R_elder' (by (with_reducible repeat (first | apply Kd.R_alloc | apply Kd.R_drewN | apply Kd.R_drew)); exact (Kd.R_mono (rF_ (rF_ (rF_ (Kd.R_types HO277.out BK288.out (by decide))))) (fun _ h_ => h_.1))) (Kd.R_base ho1) hb); replace HO286 := a_ (Kd.R_elder' (by (with_reducible repeat (first | apply Kd.R_alloc | apply Kd.R_drewN | apply Kd.R_drew)); exact (Kd.R_mono (rF_ (rF_ (rF_ (Kd.R_types HO286.out BK288.out (by decide))))) (fun _ h_ => h_.1))) (Kd.R_base ho1) hb); replace BK243 := a_ (blk_below (g := gb243) (o := .cells #[.slice Ao27 t240.length co27, .int .i64 0, .slice none 0 0] 25 (0, 0)) (by (with_reducible repeat (first | refine blk_drewN ?_ _ | refine blk_drew ?_ | refine blk_alloc ?_ _)); exact (bF_ (bF_ (bF_ (hK_ BK243.out) NB243_288.out) NB243_288.out) NB243_288.out)) hb); replace BK252 := a_ (blk_below (g := gb252) (o := .cells #[.slice Ao32 t244.length co32, .int .i64 t247, .slice Ao35 t248.length co35] 25 (0, 0)) (by (with_reducible repeat (first | refine blk_drewN ?_ _ | refine blk_drew ?_ | refine blk_alloc ?_ _)); exact (bF_ (bF_ (bF_ (hK_ BK252.out) NB252_288.out) NB252_288.out) NB252_288.out)) hb); replace BK261 := a_ (blk_below (g := gb261) (o := .cells #[.slice Ao38 t253.length co38, .int .i64 t256, .slice Ao42 t257.length co42] 25 (0, 0)) (by (with_reducible repeat (first | refine blk_drewN ?_ _ | refine blk_drew ?_ | refine blk_alloc ?_ _)); exact (bF_ (bF_ (bF_ (hK_ BK261.out) NB261_288.out) NB261_288.out) NB261_288.out)) hb); replace BK270 := a_ (blk_below (g := gb270) (o := .cells #[.slice Ao45 t262.length co45, .int .i64 t265, .slice Ao50 t266.length co50] 25 (0, 0)) (by (with_reducible repeat (first | refine blk_drewN ?_ _ | refine blk_drew ?_ | refine blk_alloc ?_ _)); exact (bF_ (bF_ (bF_ (hK_ BK270.out) NB270_288.out) NB270_288.out) NB270_288.out)) hb); replace BK279 := a_ (blk_below (g := gb279) (o := .cells #[.slice Ao54 t271.length co54, .int .i64 t274, .slice Ao60 t275.length co60] 25 (0, 0)) (by (with_reducible repeat (first | refine blk_drewN ?_ _ | refine blk_drew ?_ | refine blk_alloc ?_ _)); exact (bF_ (bF_ (bF_ (hK_ BK279.out) NB279_288.out) NB279_288.out) NB279_288.out)) hb); replace BK288 := a_ (blk_below (g := gb288) (o := .cells #[.slice Ao64 t280.length co64, .int .i64 t283, .slice Ao71 t284.length co71] 25 (0, 0)) (by (with_reducible repeat (first | refine blk_drewN ?_ _ | refine blk_drew ?_ | refine blk_alloc ?_ _)); exact (bP_ (bP_ (bP_ (hK_ BK288.out))))) hb); replace HB := a_ (below_step hC_ hb); (try clear hb); (try clear hb2); (try clear hk); (try clear hi); (try clear ho0); (try clear ho1)) | ((with_reducible refine gate_dst (N := 12) rfl ?_); refine boxE_ 12 #[.slice none 0 0, .int .i64 0, .slice none 0 0] 25 ?_; intro gb297 hg w74 hbox hb; replace HO242 := a_ (Kd.N_below (Kd.N_elderB (hN_ HO242.out) gb297 (Nat.le_of_eq hg.symm)) hb); replace HO246 := a_ (Kd.N_below (Kd.N_elderB (hN_ HO246.out) gb297 (Nat.le_of_eq hg.symm)) hb); replace HO250 := a_ (Kd.R_below (hR_ HO250.out) hb); replace HO255 := a_ (Kd.N_below (Kd.N_elderB (hN_ HO255.out) gb297 (Nat.le_of_eq hg.symm)) hb); replace HO259 := a_ (Kd.R_below (hR_ HO259.out) hb); replace HO264 := a_ (Kd.N_below (Kd.N_elderB (hN_ HO264.out) gb297 (Nat.le_of_eq hg.symm)) hb); replace HO268 := a_ (Kd.R_below (hR_ HO268.out) hb); replace HO273 := a_ (Kd.N_below (Kd.N_elderB (hN_ HO273.out) gb297 (Nat.le_of_eq hg.symm)) hb); replace HO277 := a_ (Kd.R_below (hR_ HO277.out) hb); replace HO282 := a_ (Kd.N_below (Kd.N_elderB (hN_ HO282.out) gb297 (Nat.le_of_eq hg.symm)) hb); replace HO286 := a_ (Kd.R_below (hR_ HO286.out) hb); replace HO291 := a_ (Kd.N_below (Kd.N_elderB (hN_ HO291.out) gb297 (Nat.le_of_eq hg.symm)) hb); replace HO295 := a_ (Kd.R_below (hR_ HO295.out) hb); have BK297 := a_ (hbox); have GW297 := a_ ((gE_ hg : w.heap.size ≤ gb297)); have GE297 := a_ ((gE_ hg : w.heap.size ≤ gb297)); replace HB := a_ (below_step hC_ hb); have NB243_297 := a_ ((bL_ BK243.out hg : gb243 ≠ gb297)); have NB297_243 := a_ ((bG_ BK243.out hg : gb297 ≠ gb243)); replace BK243 := a_ (bB_ BK243.out hb); have NB252_297 := a_ ((bL_ BK252.out hg : gb252 ≠ gb297)); have NB297_252 := a_ ((bG_ BK252.out hg : gb297 ≠ gb252)); replace BK252 := a_ (bB_ BK252.out hb); have NB261_297 := a_ ((bL_ BK261.out hg : gb261 ≠ gb297)); have NB297_261 := a_ ((bG_ BK261.out hg : gb297 ≠ gb261)); replace BK261 := a_ (bB_ BK261.out hb); have NB270_297 := a_ ((bL_ BK270.out hg : gb270 ≠ gb297)); have NB297_270 := a_ ((bG_ BK270.out hg : gb297 ≠ gb270)); replace BK270 := a_ (bB_ BK270.out hb); have NB279_297 := a_ ((bL_ BK279.out hg : gb279 ≠ gb297)); have NB297_279 := a_ ((bG_ BK279.out hg : gb297 ≠ gb279)); replace BK279 := a_ (bB_ BK279.out hb); have NB288_297 := a_ ((bL_ BK288.out hg : gb288 ≠ gb297)); have NB297_288 := a_ ((bG_ BK288.out hg : gb297 ≠ gb288)); replace BK288 := a_ (bB_ BK288.out hb); clear hb hbox hg; obtain ⟨Ao75, co75, eo75⟩ := Kd.N_slice HO291.out; subst eo75; have hnb76 := NB297_243.out; have hnc76 := NB243_297.out; have hnb77 := NB297_252.out; have hnc77 := NB252_297.out; have hnb78 := NB297_261.out; have hnc78 := NB261_297.out; have hnb79 := NB297_270.out; have hnc79 := NB270_297.out; have hnb80 := NB297_279.out; have hnc80 := NB279_297.out; have hnb81 := NB297_288.out; have hnc81 := NB288_297.out; obtain ⟨hcz82_0, hcz82_1, hcz82_2, hfz82_0, hfz82_1, hfz82_2⟩ := bx3_ BK297.out; obtain ⟨Ao83, co83, eo83⟩ := Kd.R_slice HO295.out; subst eo83) | ((with_reducible refine gate_callee (f := 8) rfl ?_); refine goesL_ (some 50) rfl rfl Tryz.func8 (by kernel_rfl) rfl #[.agg #[.slice Ao75 t289.length co75, .int .i64 t292, .slice Ao83 t293.length co83], .int .i64 1] rfl hL_ ?_; (with_reducible refine (answer_Put.calls k _ _ t289 t292 _ _ t293 1 t298 t301 t302 t305 _ ?side1 ?side2 ?side3 ?side4 A8.out (by first | exact hG | exact GOK.below hG hC_)).mono ?_); (case side1 => refine (Kd.N_reads' (e := 66) (base := w.heap.size) (ok := fun k_ => ((some k_ ≠ (.slice Ao83 t293.length co83 : Value).ownBlock ∧ (some k_ ≠ (.slice Ao27 t240.length co27 : Value).ownBlock ∧ (some k_ ≠ (.slice Ao32 t244.length co32 : Value).ownBlock ∧ (some k_ ≠ (.slice Ao35 t248.length co35 : Value).ownBlock ∧ (some k_ ≠ (.slice Ao38 t253.length co38 : Value).ownBlock ∧ (some k_ ≠ (.slice Ao42 t257.length co42 : Value).ownBlock ∧ (some k_ ≠ (.slice Ao45 t262.length co45 : Value).ownBlock ∧ (some k_ ≠ (.slice Ao50 t266.length co50 : Value).ownBlock ∧ (some k_ ≠ (.slice Ao54 t271.length co54 : Value).ownBlock ∧ (some k_ ≠ (.slice Ao60 t275.length co60 : Value).ownBlock ∧ (some k_ ≠ (.slice Ao64 t280.length co64 : Value).ownBlock ∧ (some k_ ≠ (.slice Ao71 t284.length co71 : Value).ownBlock ∧ (k_ ≠ gb243 ∧ (k_ ≠ gb252 ∧ (k_ ≠ gb261 ∧ (k_ ≠ gb270 ∧ (k_ ≠ gb279 ∧ k_ ≠ gb288))))))))))))))))) ∧ k_ ≠ gb297)) (n := t289.length) (c := co75) ?_).2.2; exact (by (with_reducible repeat (first | apply Kd.N_alloc | apply Kd.N_drewN | apply Kd.N_drew)); exact (Kd.N_mono (nF_ (nF_ (nF_ (Kd.N_mono HO291.out (fun k_ hk => (⟨hk, hk.2⟩ : _ ∧ k_ ≠ gb297)))))) (fun _ h_ => h_.1)))); (case side2 => exact (Kd.N_reads' HO291.out).2.1); (case side3 => refine (Kd.R_reads' (e := 53) (base := w.heap.size) (ok := fun k_ => (((((True ∧ some k_ ≠ (.slice Ao35 t248.length co35 : Value).ownBlock) ∧ some k_ ≠ (.slice Ao42 t257.length co42 : Value).ownBlock) ∧ some k_ ≠ (.slice Ao50 t266.length co50 : Value).ownBlock) ∧ some k_ ≠ (.slice Ao60 t275.length co60 : Value).ownBlock) ∧ some k_ ≠ (.slice Ao71 t284.length co71 : Value).ownBlock)) (n := t293.length) (c := co83) ?_).2.2; exact (by (with_reducible repeat (first | apply Kd.R_alloc | apply Kd.R_drewN | apply Kd.R_drew)); exact (Kd.R_mono (rF_ (rF_ (rF_ (Kd.R_types HO295.out BK297.out (by decide))))) (fun _ h_ => h_.1)))); (case side4 => exact (Kd.R_reads' HO295.out).2.1); rintro e w84 ⟨v299, v303, rfl, ho0, ho1, hb⟩; refine ⟨_, rfl, ?_⟩; have HO300 := a_ (Kd.N_lower (Kd.N_mono (ok' := fun k_ => some k_ ≠ (v303 : Value).ownBlock ∧ some k_ ≠ (.slice Ao27 t240.length co27 : Value).ownBlock ∧ some k_ ≠ (.slice Ao32 t244.length co32 : Value).ownBlock ∧ some k_ ≠ (.slice Ao35 t248.length co35 : Value).ownBlock ∧ some k_ ≠ (.slice Ao38 t253.length co38 : Value).ownBlock ∧ some k_ ≠ (.slice Ao42 t257.length co42 : Value).ownBlock ∧ some k_ ≠ (.slice Ao45 t262.length co45 : Value).ownBlock ∧ some k_ ≠ (.slice Ao50 t266.length co50 : Value).ownBlock ∧ some k_ ≠ (.slice Ao54 t271.length co54 : Value).ownBlock ∧ some k_ ≠ (.slice Ao60 t275.length co60 : Value).ownBlock ∧ some k_ ≠ (.slice Ao64 t280.length co64 : Value).ownBlock ∧ some k_ ≠ (.slice Ao71 t284.length co71 : Value).ownBlock ∧ some k_ ≠ (.slice Ao75 t289.length co75 : Value).ownBlock ∧ some k_ ≠ (.slice Ao83 t293.length co83 : Value).ownBlock ∧ k_ ≠ gb243 ∧ k_ ≠ gb252 ∧ k_ ≠ gb261 ∧ k_ ≠ gb270 ∧ k_ ≠ gb279 ∧ k_ ≠ gb288 ∧ k_ ≠ gb297) (Kd.S_N (Kd.S_bound (Kd.S_apart' ho0 (Kd.R_typed ho1) (by decide)))) (fun k_ hk_ => ⟨hk_.1.2, (Kd.fresh' (Kd.N_lt (by (with_reducible repeat (first | apply Kd.N_alloc | apply Kd.N_drewN | apply Kd.N_drew)); exact (Kd.N_mono (nF_ (nF_ (nF_ (Kd.N_mono HO242.out (fun k_ hk => (⟨hk, hk.2⟩ : _ ∧ k_ ≠ gb297)))))) (fun _ h_ => h_.1)))) k_ hk_.2.1), (Kd.fresh' (Kd.N_lt (by (with_reducible repeat (first | apply Kd.N_alloc | apply Kd.N_drewN | apply Kd.N_drew)); exact (Kd.N_mono (nF_ (nF_ (nF_ (Kd.N_mono HO246.out (fun k_ hk => (⟨hk, hk.2⟩ : _ ∧ k_ ≠ gb297)))))) (fun _ h_ => h_.1)))) k_ hk_.2.1), (Kd.fresh' (Kd.R_lt (by (with_reducible repeat (first | apply Kd.R_alloc | apply Kd.R_drewN | apply Kd.R_drew)); exact (Kd.R_mono (rF_ (rF_ (rF_ (Kd.R_types HO250.out BK297.out (by decide))))) (fun _ h_ => h_.1)))) k_ hk_.2.1), (Kd.fresh' (Kd.N_lt (by (with_reducible repeat (first | apply Kd.N_alloc | apply Kd.N_drewN | apply Kd.N_drew)); exact (Kd.N_mono (nF_ (nF_ (nF_ (Kd.N_mono HO255.out (fun k_ hk => (⟨hk, hk.2⟩ : _ ∧ k_ ≠ gb297)))))) (fun _ h_ => h_.1)))) k_ hk_.2.1), (Kd.fresh' (Kd.R_lt (by (with_reducible repeat (first | apply Kd.R_alloc | apply Kd.R_drewN | apply Kd.R_drew)); exact (Kd.R_mono (rF_ (rF_ (rF_ (Kd.R_types HO259.out BK297.out (by decide))))) (fun _ h_ => h_.1)))) k_ hk_.2.1), (Kd.fresh' (Kd.N_lt (by (with_reducible repeat (first | apply Kd.N_alloc | apply Kd.N_drewN | apply Kd.N_drew)); exact (Kd.N_mono (nF_ (nF_ (nF_ (Kd.N_mono HO264.out (fun k_ hk => (⟨hk, hk.2⟩ : _ ∧ k_ ≠ gb297)))))) (fun _ h_ => h_.1)))) k_ hk_.2.1), (Kd.fresh' (Kd.R_lt (by (with_reducible repeat (first | apply Kd.R_alloc | apply Kd.R_drewN | apply Kd.R_drew)); exact (Kd.R_mono (rF_ (rF_ (rF_ (Kd.R_types HO268.out BK297.out (by decide))))) (fun _ h_ => h_.1)))) k_ hk_.2.1), (Kd.fresh' (Kd.N_lt (by (with_reducible repeat (first | apply Kd.N_alloc | apply Kd.N_drewN | apply Kd.N_drew)); exact (Kd.N_mono (nF_ (nF_ (nF_ (Kd.N_mono HO273.out (fun k_ hk => (⟨hk, hk.2⟩ : _ ∧ k_ ≠ gb297)))))) (fun _ h_ => h_.1)))) k_ hk_.2.1), (Kd.fresh' (Kd.R_lt (by (with_reducible repeat (first | apply Kd.R_alloc | apply Kd.R_drewN | apply Kd.R_drew)); exact (Kd.R_mono (rF_ (rF_ (rF_ (Kd.R_types HO277.out BK297.out (by decide))))) (fun _ h_ => h_.1)))) k_ hk_.2.1), (Kd.fresh' (Kd.N_lt (by (with_reducible repeat (first | apply Kd.N_alloc | apply Kd.N_drewN | apply Kd.N_drew)); exact (Kd.N_mono (nF_ (nF_ (nF_ (Kd.N_mono HO282.out (fun k_ hk => (⟨hk, hk.2⟩ : _ ∧ k_ ≠ gb297)))))) (fun _ h_ => h_.1)))) k_ hk_.2.1), (Kd.fresh' (Kd.R_lt (by (with_reducible repeat (first | apply Kd.R_alloc | apply Kd.R_drewN | apply Kd.R_drew)); exact (Kd.R_mono (rF_ (rF_ (rF_ (Kd.R_types HO286.out BK297.out (by decide))))) (fun _ h_ => h_.1)))) k_ hk_.2.1), (Kd.fresh' (Kd.N_lt (by (with_reducible repeat (first | apply Kd.N_alloc | apply Kd.N_drewN | apply Kd.N_drew)); exact (Kd.N_mono (nF_ (nF_ (nF_ (Kd.N_mono HO291.out (fun k_ hk => (⟨hk, hk.2⟩ : _ ∧ k_ ≠ gb297)))))) (fun _ h_ => h_.1)))) k_ hk_.2.1), (Kd.fresh' (Kd.R_lt (by (with_reducible repeat (first | apply Kd.R_alloc | apply Kd.R_drewN | apply Kd.R_drew)); exact (Kd.R_mono (rF_ (rF_ (rF_ (Kd.R_types HO295.out BK297.out (by decide))))) (fun _ h_ => h_.1)))) k_ hk_.2.1), (Kd.freshB (g := gb243) (o := .cells #[.slice Ao27 t240.length co27, .int .i64 0, .slice none 0 0] 25 (0, 0)) (bF_ (bF_ (bF_ (hK_ BK243.out) NB243_297.out) NB243_297.out) NB243_297.out) k_ hk_.2.1), (Kd.freshB (g := gb252) (o := .cells #[.slice Ao32 t244.length co32, .int .i64 t247, .slice Ao35 t248.length co35] 25 (0, 0)) (bF_ (bF_ (bF_ (hK_ BK252.out) NB252_297.out) NB252_297.out) NB252_297.out) k_ hk_.2.1), (Kd.freshB (g := gb261) (o := .cells #[.slice Ao38 t253.length co38, .int .i64 t256, .slice Ao42 t257.length co42] 25 (0, 0)) (bF_ (bF_ (bF_ (hK_ BK261.out) NB261_297.out) NB261_297.out) NB261_297.out) k_ hk_.2.1), (Kd.freshB (g := gb270) (o := .cells #[.slice Ao45 t262.length co45, .int .i64 t265, .slice Ao50 t266.length co50] 25 (0, 0)) (bF_ (bF_ (bF_ (hK_ BK270.out) NB270_297.out) NB270_297.out) NB270_297.out) k_ hk_.2.1), (Kd.freshB (g := gb279) (o := .cells #[.slice Ao54 t271.length co54, .int .i64 t274, .slice Ao60 t275.length co60] 25 (0, 0)) (bF_ (bF_ (bF_ (hK_ BK279.out) NB279_297.out) NB279_297.out) NB279_297.out) k_ hk_.2.1), (Kd.freshB (g := gb288) (o := .cells #[.slice Ao64 t280.length co64, .int .i64 t283, .slice Ao71 t284.length co71] 25 (0, 0)) (bF_ (bF_ (bF_ (hK_ BK288.out) NB288_297.out) NB288_297.out) NB288_297.out) k_ hk_.2.1), (Kd.freshB (g := gb297) (o := .cells #[.slice Ao75 t289.length co75, .int .i64 t292, .slice Ao83 t293.length co83] 25 (0, 0)) (bP_ (bP_ (bP_ (hK_ BK297.out)))) k_ hk_.2.1)⟩)) (below_size hC_)); replace HO242 := a_ (Kd.N_mono (Kd.N_told (Kd.N_told (Kd.N_old (by (with_reducible repeat (first | apply Kd.N_alloc | apply Kd.N_drewN | apply Kd.N_drew)); exact (Kd.N_mono (nF_ (nF_ (nF_ (Kd.N_mono HO242.out (fun k_ hk => (⟨hk, hk.2⟩ : _ ∧ k_ ≠ gb297)))))) (fun _ h_ => h_.1))) hb) (Kd.N_base (Kd.R_N (Kd.S_R ho0)))) (Kd.R_base ho1)) (fun _ h_ => h_.1)); replace HO246 := a_ (Kd.N_mono (Kd.N_told (Kd.N_told (Kd.N_old (by (with_reducible repeat (first | apply Kd.N_alloc | apply Kd.N_drewN | apply Kd.N_drew)); exact (Kd.N_mono (nF_ (nF_ (nF_ (Kd.N_mono HO246.out (fun k_ hk => (⟨hk, hk.2⟩ : _ ∧ k_ ≠ gb297)))))) (fun _ h_ => h_.1))) hb) (Kd.N_base (Kd.R_N (Kd.S_R ho0)))) (Kd.R_base ho1)) (fun _ h_ => h_.1)); replace HO255 := a_ (Kd.N_mono (Kd.N_told (Kd.N_told (Kd.N_old (by (with_reducible repeat (first | apply Kd.N_alloc | apply Kd.N_drewN | apply Kd.N_drew)); exact (Kd.N_mono (nF_ (nF_ (nF_ (Kd.N_mono HO255.out (fun k_ hk => (⟨hk, hk.2⟩ : _ ∧ k_ ≠ gb297)))))) (fun _ h_ => h_.1))) hb) (Kd.N_base (Kd.R_N (Kd.S_R ho0)))) (Kd.R_base ho1)) (fun _ h_ => h_.1)); replace HO264 := a_ (Kd.N_mono (Kd.N_told (Kd.N_told (Kd.N_old (by (with_reducible repeat (first | apply Kd.N_alloc | apply Kd.N_drewN | apply Kd.N_drew)); exact (Kd.N_mono (nF_ (nF_ (nF_ (Kd.N_mono HO264.out (fun k_ hk => (⟨hk, hk.2⟩ : _ ∧ k_ ≠ gb297)))))) (fun _ h_ => h_.1))) hb) (Kd.N_base (Kd.R_N (Kd.S_R ho0)))) (Kd.R_base ho1)) (fun _ h_ => h_.1)); replace HO273 := a_ (Kd.N_mono (Kd.N_told (Kd.N_told (Kd.N_old (by (with_reducible repeat (first | apply Kd.N_alloc | apply Kd.N_drewN | apply Kd.N_drew)); exact (Kd.N_mono (nF_ (nF_ (nF_ (Kd.N_mono HO273.out (fun k_ hk => (⟨hk, hk.2⟩ : _ ∧ k_ ≠ gb297)))))) (fun _ h_ => h_.1))) hb) (Kd.N_base (Kd.R_N (Kd.S_R ho0)))) (Kd.R_base ho1)) (fun _ h_ => h_.1)); replace HO282 := a_ (Kd.N_mono (Kd.N_told (Kd.N_told (Kd.N_old (by (with_reducible repeat (first | apply Kd.N_alloc | apply Kd.N_drewN | apply Kd.N_drew)); exact (Kd.N_mono (nF_ (nF_ (nF_ (Kd.N_mono HO282.out (fun k_ hk => (⟨hk, hk.2⟩ : _ ∧ k_ ≠ gb297)))))) (fun _ h_ => h_.1))) hb) (Kd.N_base (Kd.R_N (Kd.S_R ho0)))) (Kd.R_base ho1)) (fun _ h_ => h_.1)); replace HO291 := a_ (Kd.N_mono (Kd.N_told (Kd.N_told (Kd.N_old (by (with_reducible repeat (first | apply Kd.N_alloc | apply Kd.N_drewN | apply Kd.N_drew)); exact (Kd.N_mono (nF_ (nF_ (nF_ (Kd.N_mono HO291.out (fun k_ hk => (⟨hk, hk.2⟩ : _ ∧ k_ ≠ gb297)))))) (fun _ h_ => h_.1))) hb) (Kd.N_base (Kd.R_N (Kd.S_R ho0)))) (Kd.R_base ho1)) (fun _ h_ => h_.1)); have HO304 := a_ (Kd.R_lower (Kd.R_new' (Kd.R_new' (Kd.R_new' (Kd.R_new' (Kd.R_new' (Kd.R_new' ho1 (Kd.R_lt (by (with_reducible repeat (first | apply Kd.R_alloc | apply Kd.R_drewN | apply Kd.R_drew)); exact (Kd.R_mono (rF_ (rF_ (rF_ (Kd.R_types HO250.out BK297.out (by decide))))) (fun _ h_ => h_.1))))) (Kd.R_lt (by (with_reducible repeat (first | apply Kd.R_alloc | apply Kd.R_drewN | apply Kd.R_drew)); exact (Kd.R_mono (rF_ (rF_ (rF_ (Kd.R_types HO259.out BK297.out (by decide))))) (fun _ h_ => h_.1))))) (Kd.R_lt (by (with_reducible repeat (first | apply Kd.R_alloc | apply Kd.R_drewN | apply Kd.R_drew)); exact (Kd.R_mono (rF_ (rF_ (rF_ (Kd.R_types HO268.out BK297.out (by decide))))) (fun _ h_ => h_.1))))) (Kd.R_lt (by (with_reducible repeat (first | apply Kd.R_alloc | apply Kd.R_drewN | apply Kd.R_drew)); exact (Kd.R_mono (rF_ (rF_ (rF_ (Kd.R_types HO277.out BK297.out (by decide))))) (fun _ h_ => h_.1))))) (Kd.R_lt (by (with_reducible repeat (first | apply Kd.R_alloc | apply Kd.R_drewN | apply Kd.R_drew)); exact (Kd.R_mono (rF_ (rF_ (rF_ (Kd.R_types HO286.out BK297.out (by decide))))) (fun _ h_ => h_.1))))) (Kd.R_lt (by (with_reducible repeat (first | apply Kd.R_alloc | apply Kd.R_drewN | apply Kd.R_drew)); exact (Kd.R_mono (rF_ (rF_ (rF_ (Kd.R_types HO295.out BK297.out (by decide))))) (fun _ h_ => h_.1))))) (below_size hC_)); replace HO250 := a_ (Kd.R_elder' (by (with_reducible repeat (first | apply Kd.R_alloc | apply Kd.R_drewN | apply Kd.R_drew)); exact (Kd.R_mono (rF_ (rF_ (rF_ (Kd.R_types HO250.out BK297.out (by decide))))) (fun _ h_ => h_.1))) (Kd.R_base ho1) hb); replace HO259 := a_ (Kd.R_elder' (by (with_reducible repeat (first | apply Kd.R_alloc | apply Kd.R_drewN | apply Kd.R_drew)); exact (Kd.R_mono (rF_ (rF_ (rF_ (Kd.R_types HO259.out BK297.out (by decide))))) (fun _ h_ => h_.1))) (Kd.R_base ho1) hb); replace HO268 := a_ (Kd.R_elder' (by (with_reducible repeat (first | apply Kd.R_alloc | apply Kd.R_drewN | apply Kd.R_drew)); exact (Kd.R_mono (rF_ (rF_ (rF_ (Kd.R_types HO268.out BK297.out (by decide))))) (fun _ h_ => h_.1))) (Kd.R_base ho1) hb); replace HO277 := a_ (Kd.R_elder' (by (with_reducible repeat (first | apply Kd.R_alloc | apply Kd.R_drewN | apply Kd.R_drew)); exact (Kd.R_mono (rF_ (rF_ (rF_ (Kd.R_types HO277.out BK297.out (by decide))))) (fun _ h_ => h_.1))) (Kd.R_base ho1) hb); replace HO286 := a_ (Kd.R_elder' (by (with_reducible repeat (first | apply Kd.R_alloc | apply Kd.R_drewN | apply Kd.R_drew)); exact (Kd.R_mono (rF_ (rF_ (rF_ (Kd.R_types HO286.out BK297.out (by decide))))) (fun _ h_ => h_.1))) (Kd.R_base ho1) hb); replace HO295 := a_ (Kd.R_elder' (by (with_reducible repeat (first | apply Kd.R_alloc | apply Kd.R_drewN | apply Kd.R_drew)); exact (Kd.R_mono (rF_ (rF_ (rF_ (Kd.R_types HO295.out BK297.out (by decide))))) (fun _ h_ => h_.1))) (Kd.R_base ho1) hb); replace BK243 := a_ (blk_below (g := gb243) (o := .cells #[.slice Ao27 t240.length co27, .int .i64 0, .slice none 0 0] 25 (0, 0)) (by (with_reducible repeat (first | refine blk_drewN ?_ _ | refine blk_drew ?_ | refine blk_alloc ?_ _)); exact (bF_ (bF_ (bF_ (hK_ BK243.out) NB243_297.out) NB243_297.out) NB243_297.out)) hb); replace BK252 := a_ (blk_below (g := gb252) (o := .cells #[.slice Ao32 t244.length co32, .int .i64 t247, .slice Ao35 t248.length co35] 25 (0, 0)) (by (with_reducible repeat (first | refine blk_drewN ?_ _ | refine blk_drew ?_ | refine blk_alloc ?_ _)); exact (bF_ (bF_ (bF_ (hK_ BK252.out) NB252_297.out) NB252_297.out) NB252_297.out)) hb); replace BK261 := a_ (blk_below (g := gb261) (o := .cells #[.slice Ao38 t253.length co38, .int .i64 t256, .slice Ao42 t257.length co42] 25 (0, 0)) (by (with_reducible repeat (first | refine blk_drewN ?_ _ | refine blk_drew ?_ | refine blk_alloc ?_ _)); exact (bF_ (bF_ (bF_ (hK_ BK261.out) NB261_297.out) NB261_297.out) NB261_297.out)) hb); replace BK270 := a_ (blk_below (g := gb270) (o := .cells #[.slice Ao45 t262.length co45, .int .i64 t265, .slice Ao50 t266.length co50] 25 (0, 0)) (by (with_reducible repeat (first | refine blk_drewN ?_ _ | refine blk_drew ?_ | refine blk_alloc ?_ _)); exact (bF_ (bF_ (bF_ (hK_ BK270.out) NB270_297.out) NB270_297.out) NB270_297.out)) hb); replace BK279 := a_ (blk_below (g := gb279) (o := .cells #[.slice Ao54 t271.length co54, .int .i64 t274, .slice Ao60 t275.length co60] 25 (0, 0)) (by (with_reducible repeat (first | refine blk_drewN ?_ _ | refine blk_drew ?_ | refine blk_alloc ?_ _)); exact (bF_ (bF_ (bF_ (hK_ BK279.out) NB279_297.out) NB279_297.out) NB279_297.out)) hb); replace BK288 := a_ (blk_below (g := gb288) (o := .cells #[.slice Ao64 t280.length co64, .int .i64 t283, .slice Ao71 t284.length co71] 25 (0, 0)) (by (with_reducible repeat (first | refine blk_drewN ?_ _ | refine blk_drew ?_ | refine blk_alloc ?_ _)); exact (bF_ (bF_ (bF_ (hK_ BK288.out) NB288_297.out) NB288_297.out) NB288_297.out)) hb); replace BK297 := a_ (blk_below (g := gb297) (o := .cells #[.slice Ao75 t289.length co75, .int .i64 t292, .slice Ao83 t293.length co83] 25 (0, 0)) (by (with_reducible repeat (first | refine blk_drewN ?_ _ | refine blk_drew ?_ | refine blk_alloc ?_ _)); exact (bP_ (bP_ (bP_ (hK_ BK297.out))))) hb); replace HB := a_ (below_step hC_ hb); (try clear hb); (try clear hb2); (try clear hk); (try clear hi); (try clear ho0); (try clear ho1)) | ((with_reducible refine gate_dst (N := 14) rfl ?_); refine boxE_ 14 #[.slice none 0 0, .int .i64 0, .slice none 0 0] 25 ?_; intro gb306 hg w85 hbox hb; replace HO242 := a_ (Kd.N_below (Kd.N_elderB (hN_ HO242.out) gb306 (Nat.le_of_eq hg.symm)) hb); replace HO246 := a_ (Kd.N_below (Kd.N_elderB (hN_ HO246.out) gb306 (Nat.le_of_eq hg.symm)) hb); replace HO250 := a_ (Kd.R_below (hR_ HO250.out) hb); replace HO255 := a_ (Kd.N_below (Kd.N_elderB (hN_ HO255.out) gb306 (Nat.le_of_eq hg.symm)) hb); replace HO259 := a_ (Kd.R_below (hR_ HO259.out) hb); replace HO264 := a_ (Kd.N_below (Kd.N_elderB (hN_ HO264.out) gb306 (Nat.le_of_eq hg.symm)) hb); replace HO268 := a_ (Kd.R_below (hR_ HO268.out) hb); replace HO273 := a_ (Kd.N_below (Kd.N_elderB (hN_ HO273.out) gb306 (Nat.le_of_eq hg.symm)) hb); replace HO277 := a_ (Kd.R_below (hR_ HO277.out) hb); replace HO282 := a_ (Kd.N_below (Kd.N_elderB (hN_ HO282.out) gb306 (Nat.le_of_eq hg.symm)) hb); replace HO286 := a_ (Kd.R_below (hR_ HO286.out) hb); replace HO291 := a_ (Kd.N_below (Kd.N_elderB (hN_ HO291.out) gb306 (Nat.le_of_eq hg.symm)) hb); replace HO295 := a_ (Kd.R_below (hR_ HO295.out) hb); replace HO300 := a_ (Kd.N_below (Kd.N_elderB (hN_ HO300.out) gb306 (Nat.le_of_eq hg.symm)) hb); replace HO304 := a_ (Kd.R_below (hR_ HO304.out) hb); have BK306 := a_ (hbox); have GW306 := a_ ((gE_ hg : w.heap.size ≤ gb306)); have GE306 := a_ ((gE_ hg : w.heap.size ≤ gb306)); replace HB := a_ (below_step hC_ hb); have NB243_306 := a_ ((bL_ BK243.out hg : gb243 ≠ gb306)); have NB306_243 := a_ ((bG_ BK243.out hg : gb306 ≠ gb243)); replace BK243 := a_ (bB_ BK243.out hb); have NB252_306 := a_ ((bL_ BK252.out hg : gb252 ≠ gb306)); have NB306_252 := a_ ((bG_ BK252.out hg : gb306 ≠ gb252)); replace BK252 := a_ (bB_ BK252.out hb); have NB261_306 := a_ ((bL_ BK261.out hg : gb261 ≠ gb306)); have NB306_261 := a_ ((bG_ BK261.out hg : gb306 ≠ gb261)); replace BK261 := a_ (bB_ BK261.out hb); have NB270_306 := a_ ((bL_ BK270.out hg : gb270 ≠ gb306)); have NB306_270 := a_ ((bG_ BK270.out hg : gb306 ≠ gb270)); replace BK270 := a_ (bB_ BK270.out hb); have NB279_306 := a_ ((bL_ BK279.out hg : gb279 ≠ gb306)); have NB306_279 := a_ ((bG_ BK279.out hg : gb306 ≠ gb279)); replace BK279 := a_ (bB_ BK279.out hb); have NB288_306 := a_ ((bL_ BK288.out hg : gb288 ≠ gb306)); have NB306_288 := a_ ((bG_ BK288.out hg : gb306 ≠ gb288)); replace BK288 := a_ (bB_ BK288.out hb); have NB297_306 := a_ ((bL_ BK297.out hg : gb297 ≠ gb306)); have NB306_297 := a_ ((bG_ BK297.out hg : gb306 ≠ gb297)); replace BK297 := a_ (bB_ BK297.out hb); clear hb hbox hg; obtain ⟨Ao86, co86, eo86⟩ := Kd.N_slice HO300.out; subst eo86; have hnb87 := NB306_243.out; have hnc87 := NB243_306.out; have hnb88 := NB306_252.out; have hnc88 := NB252_306.out; have hnb89 := NB306_261.out; have hnc89 := NB261_306.out; have hnb90 := NB306_270.out; have hnc90 := NB270_306.out; have hnb91 := NB306_279.out; have hnc91 := NB279_306.out; have hnb92 := NB306_288.out; have hnc92 := NB288_306.out; have hnb93 := NB306_297.out; have hnc93 := NB297_306.out; obtain ⟨hcz94_0, hcz94_1, hcz94_2, hfz94_0, hfz94_1, hfz94_2⟩ := bx3_ BK306.out; obtain ⟨Ao95, co95, eo95⟩ := Kd.R_slice HO304.out; subst eo95; obtain ⟨hcz96_0, hcz96_1, hcz96_2, hfz96_0, hfz96_1, hfz96_2⟩ := bx3_ BK261.out) | ((with_reducible refine gate_dst (N := 57) rfl ?_); refine Kd.R_lit k53 _ 53 ?hg (N := 57) ?hd (xs := ([(⟨0, 2⟩ : S53), (⟨1, 1⟩ : S53)] : List (S53))) (inner := [.int .i64 0, .int .i64 2, .int .i64 1, .int .i64 1]) (ok := fun _ => True) (okp := fun _ => True) ?hr ?hp (fun _ hk => hk) trivial (Below.refl _ _) (Nat.le_refl _) (by simp) ?_; (case hd => rfl); (case hg => rfl); (case hr => first | (go_simp; done) | (go_simp; rfl)); (case hp => exact (Reps.c2 (show Kd.M k53 _ _ _ (⟨0, 2⟩ : S53) [.int .i64 0, .int .i64 2] from (k53_mkM _ _ _ (⟨0, 2⟩ : S53) )) (Reps.c2 (show Kd.M k53 _ _ _ (⟨1, 1⟩ : S53) [.int .i64 1, .int .i64 1] from (k53_mkM _ _ _ (⟨1, 1⟩ : S53) )) (Reps.none _ _)))); intro v308 w97 ho98 hb hg_ hnew_; clear hg_ hnew_; (first | rw [← Ny307.out] at ho98 | (simp only [Int.reduceToNat] at ho98; rw [← Ny307.out] at ho98)); replace HO242 := a_ (Kd.N_elder' (by (with_reducible repeat (first | apply Kd.N_alloc | apply Kd.N_drewN | apply Kd.N_drew)); exact (Kd.N_mono (nF_ (nF_ (nF_ (Kd.N_mono HO242.out (fun k_ hk => (⟨hk, hk.2⟩ : _ ∧ k_ ≠ gb306)))))) (fun _ h_ => h_.1))) (Kd.R_base ho98) hb); replace HO246 := a_ (Kd.N_elder' (by (with_reducible repeat (first | apply Kd.N_alloc | apply Kd.N_drewN | apply Kd.N_drew)); exact (Kd.N_mono (nF_ (nF_ (nF_ (Kd.N_mono HO246.out (fun k_ hk => (⟨hk, hk.2⟩ : _ ∧ k_ ≠ gb306)))))) (fun _ h_ => h_.1))) (Kd.R_base ho98) hb); replace HO255 := a_ (Kd.N_elder' (by (with_reducible repeat (first | apply Kd.N_alloc | apply Kd.N_drewN | apply Kd.N_drew)); exact (Kd.N_mono (nF_ (nF_ (nF_ (Kd.N_mono HO255.out (fun k_ hk => (⟨hk, hk.2⟩ : _ ∧ k_ ≠ gb306)))))) (fun _ h_ => h_.1))) (Kd.R_base ho98) hb); replace HO264 := a_ (Kd.N_elder' (by (with_reducible repeat (first | apply Kd.N_alloc | apply Kd.N_drewN | apply Kd.N_drew)); exact (Kd.N_mono (nF_ (nF_ (nF_ (Kd.N_mono HO264.out (fun k_ hk => (⟨hk, hk.2⟩ : _ ∧ k_ ≠ gb306)))))) (fun _ h_ => h_.1))) (Kd.R_base ho98) hb); replace HO273 := a_ (Kd.N_elder' (by (with_reducible repeat (first | apply Kd.N_alloc | apply Kd.N_drewN | apply Kd.N_drew)); exact (Kd.N_mono (nF_ (nF_ (nF_ (Kd.N_mono HO273.out (fun k_ hk => (⟨hk, hk.2⟩ : _ ∧ k_ ≠ gb306)))))) (fun _ h_ => h_.1))) (Kd.R_base ho98) hb); replace HO282 := a_ (Kd.N_elder' (by (with_reducible repeat (first | apply Kd.N_alloc | apply Kd.N_drewN | apply Kd.N_drew)); exact (Kd.N_mono (nF_ (nF_ (nF_ (Kd.N_mono HO282.out (fun k_ hk => (⟨hk, hk.2⟩ : _ ∧ k_ ≠ gb306)))))) (fun _ h_ => h_.1))) (Kd.R_base ho98) hb); replace HO291 := a_ (Kd.N_elder' (by (with_reducible repeat (first | apply Kd.N_alloc | apply Kd.N_drewN | apply Kd.N_drew)); exact (Kd.N_mono (nF_ (nF_ (nF_ (Kd.N_mono HO291.out (fun k_ hk => (⟨hk, hk.2⟩ : _ ∧ k_ ≠ gb306)))))) (fun _ h_ => h_.1))) (Kd.R_base ho98) hb); replace HO300 := a_ (Kd.N_elder' (by (with_reducible repeat (first | apply Kd.N_alloc | apply Kd.N_drewN | apply Kd.N_drew)); exact (Kd.N_mono (nF_ (nF_ (nF_ (Kd.N_mono HO300.out (fun k_ hk => (⟨hk, hk.2⟩ : _ ∧ k_ ≠ gb306)))))) (fun _ h_ => h_.1))) (Kd.R_base ho98) hb); have HO309 := a_ (Kd.R_lower (Kd.R_new' (Kd.R_new' (Kd.R_new' (Kd.R_new' (Kd.R_new' (Kd.R_new' (Kd.R_new' ho98 (Kd.R_lt (by (with_reducible repeat (first | apply Kd.R_alloc | apply Kd.R_drewN | apply Kd.R_drew)); exact (Kd.R_mono (rF_ (rF_ (rF_ (Kd.R_types HO250.out BK306.out (by decide))))) (fun _ h_ => h_.1))))) (Kd.R_lt (by (with_reducible repeat (first | apply Kd.R_alloc | apply Kd.R_drewN | apply Kd.R_drew)); exact (Kd.R_mono (rF_ (rF_ (rF_ (Kd.R_types HO259.out BK306.out (by decide))))) (fun _ h_ => h_.1))))) (Kd.R_lt (by (with_reducible repeat (first | apply Kd.R_alloc | apply Kd.R_drewN | apply Kd.R_drew)); exact (Kd.R_mono (rF_ (rF_ (rF_ (Kd.R_types HO268.out BK306.out (by decide))))) (fun _ h_ => h_.1))))) (Kd.R_lt (by (with_reducible repeat (first | apply Kd.R_alloc | apply Kd.R_drewN | apply Kd.R_drew)); exact (Kd.R_mono (rF_ (rF_ (rF_ (Kd.R_types HO277.out BK306.out (by decide))))) (fun _ h_ => h_.1))))) (Kd.R_lt (by (with_reducible repeat (first | apply Kd.R_alloc | apply Kd.R_drewN | apply Kd.R_drew)); exact (Kd.R_mono (rF_ (rF_ (rF_ (Kd.R_types HO286.out BK306.out (by decide))))) (fun _ h_ => h_.1))))) (Kd.R_lt (by (with_reducible repeat (first | apply Kd.R_alloc | apply Kd.R_drewN | apply Kd.R_drew)); exact (Kd.R_mono (rF_ (rF_ (rF_ (Kd.R_types HO295.out BK306.out (by decide))))) (fun _ h_ => h_.1))))) (Kd.R_lt (by (with_reducible repeat (first | apply Kd.R_alloc | apply Kd.R_drewN | apply Kd.R_drew)); exact (Kd.R_mono (rF_ (rF_ (rF_ (Kd.R_types HO304.out BK306.out (by decide))))) (fun _ h_ => h_.1))))) (below_size hC_)); replace HO250 := a_ (Kd.R_elder' (by (with_reducible repeat (first | apply Kd.R_alloc | apply Kd.R_drewN | apply Kd.R_drew)); exact (Kd.R_mono (rF_ (rF_ (rF_ (Kd.R_types HO250.out BK306.out (by decide))))) (fun _ h_ => h_.1))) (Kd.R_base ho98) hb); replace HO259 := a_ (Kd.R_elder' (by (with_reducible repeat (first | apply Kd.R_alloc | apply Kd.R_drewN | apply Kd.R_drew)); exact (Kd.R_mono (rF_ (rF_ (rF_ (Kd.R_types HO259.out BK306.out (by decide))))) (fun _ h_ => h_.1))) (Kd.R_base ho98) hb); replace HO268 := a_ (Kd.R_elder' (by (with_reducible repeat (first | apply Kd.R_alloc | apply Kd.R_drewN | apply Kd.R_drew)); exact (Kd.R_mono (rF_ (rF_ (rF_ (Kd.R_types HO268.out BK306.out (by decide))))) (fun _ h_ => h_.1))) (Kd.R_base ho98) hb); replace HO277 := a_ (Kd.R_elder' (by (with_reducible repeat (first | apply Kd.R_alloc | apply Kd.R_drewN | apply Kd.R_drew)); exact (Kd.R_mono (rF_ (rF_ (rF_ (Kd.R_types HO277.out BK306.out (by decide))))) (fun _ h_ => h_.1))) (Kd.R_base ho98) hb); replace HO286 := a_ (Kd.R_elder' (by (with_reducible repeat (first | apply Kd.R_alloc | apply Kd.R_drewN | apply Kd.R_drew)); exact (Kd.R_mono (rF_ (rF_ (rF_ (Kd.R_types HO286.out BK306.out (by decide))))) (fun _ h_ => h_.1))) (Kd.R_base ho98) hb); replace HO295 := a_ (Kd.R_elder' (by (with_reducible repeat (first | apply Kd.R_alloc | apply Kd.R_drewN | apply Kd.R_drew)); exact (Kd.R_mono (rF_ (rF_ (rF_ (Kd.R_types HO295.out BK306.out (by decide))))) (fun _ h_ => h_.1))) (Kd.R_base ho98) hb); replace HO304 := a_ (Kd.R_elder' (by (with_reducible repeat (first | apply Kd.R_alloc | apply Kd.R_drewN | apply Kd.R_drew)); exact (Kd.R_mono (rF_ (rF_ (rF_ (Kd.R_types HO304.out BK306.out (by decide))))) (fun _ h_ => h_.1))) (Kd.R_base ho98) hb); replace BK243 := a_ (blk_below (g := gb243) (o := .cells #[.slice Ao27 t240.length co27, .int .i64 0, .slice none 0 0] 25 (0, 0)) (by (with_reducible repeat (first | refine blk_drewN ?_ _ | refine blk_drew ?_ | refine blk_alloc ?_ _)); exact (bF_ (bF_ (bF_ (hK_ BK243.out) NB243_306.out) NB243_306.out) NB243_306.out)) hb); replace BK252 := a_ (blk_below (g := gb252) (o := .cells #[.slice Ao32 t244.length co32, .int .i64 t247, .slice Ao35 t248.length co35] 25 (0, 0)) (by (with_reducible repeat (first | refine blk_drewN ?_ _ | refine blk_drew ?_ | refine blk_alloc ?_ _)); exact (bF_ (bF_ (bF_ (hK_ BK252.out) NB252_306.out) NB252_306.out) NB252_306.out)) hb); replace BK261 := a_ (blk_below (g := gb261) (o := .cells #[.slice Ao38 t253.length co38, .int .i64 t256, .slice Ao42 t257.length co42] 25 (0, 0)) (by (with_reducible repeat (first | refine blk_drewN ?_ _ | refine blk_drew ?_ | refine blk_alloc ?_ _)); exact (bF_ (bF_ (bF_ (hK_ BK261.out) NB261_306.out) NB261_306.out) NB261_306.out)) hb); replace BK270 := a_ (blk_below (g := gb270) (o := .cells #[.slice Ao45 t262.length co45, .int .i64 t265, .slice Ao50 t266.length co50] 25 (0, 0)) (by (with_reducible repeat (first | refine blk_drewN ?_ _ | refine blk_drew ?_ | refine blk_alloc ?_ _)); exact (bF_ (bF_ (bF_ (hK_ BK270.out) NB270_306.out) NB270_306.out) NB270_306.out)) hb); replace BK279 := a_ (blk_below (g := gb279) (o := .cells #[.slice Ao54 t271.length co54, .int .i64 t274, .slice Ao60 t275.length co60] 25 (0, 0)) (by (with_reducible repeat (first | refine blk_drewN ?_ _ | refine blk_drew ?_ | refine blk_alloc ?_ _)); exact (bF_ (bF_ (bF_ (hK_ BK279.out) NB279_306.out) NB279_306.out) NB279_306.out)) hb); replace BK288 := a_ (blk_below (g := gb288) (o := .cells #[.slice Ao64 t280.length co64, .int .i64 t283, .slice Ao71 t284.length co71] 25 (0, 0)) (by (with_reducible repeat (first | refine blk_drewN ?_ _ | refine blk_drew ?_ | refine blk_alloc ?_ _)); exact (bF_ (bF_ (bF_ (hK_ BK288.out) NB288_306.out) NB288_306.out) NB288_306.out)) hb); replace BK297 := a_ (blk_below (g := gb297) (o := .cells #[.slice Ao75 t289.length co75, .int .i64 t292, .slice Ao83 t293.length co83] 25 (0, 0)) (by (with_reducible repeat (first | refine blk_drewN ?_ _ | refine blk_drew ?_ | refine blk_alloc ?_ _)); exact (bF_ (bF_ (bF_ (hK_ BK297.out) NB297_306.out) NB297_306.out) NB297_306.out)) hb); replace BK306 := a_ (blk_below (g := gb306) (o := .cells #[.slice Ao86 t298.length co86, .int .i64 t301, .slice Ao95 t302.length co95] 25 (0, 0)) (by (with_reducible repeat (first | refine blk_drewN ?_ _ | refine blk_drew ?_ | refine blk_alloc ?_ _)); exact (bP_ (bP_ (bP_ (hK_ BK306.out))))) hb); replace HB := a_ (below_step hC_ hb); clear hb ho98; obtain ⟨Ao99, co99, eo99⟩ := Kd.R_slice HO309.out; subst eo99) | ((with_reducible refine gate_callee (f := 29) rfl ?_); refine goesL_ _ rfl rfl Tryz.func29 (by kernel_rfl) rfl #[.slice Ao42 t257.length co42, .slice Ao99 y307.length co99] rfl hL_ ?_; (with_reducible refine (sleuthlaw0_SameAnswers.calls k _ _ t257 _ _ y307 true _ ?side1 ?side2 ?side3 ?side4 A9.out).mono ?_); (case side1 => exact cC_ (Kd.R_reads' HO259.out).2.2); (case side2 => exact (Kd.R_reads' HO259.out).2.1); (case side3 => exact cC_ (Kd.R_reads' HO309.out).2.2); (case side4 => exact (Kd.R_reads' HO309.out).2.1); rintro e w' ⟨rfl, ⟨nd, rfl⟩⟩; refine ⟨_, rfl, ?_⟩) | (go_at_call 13; (with_reducible refine (sleuthlaw0_Num.calls t251 t311 _ A11.out).mono ?_); rintro e w' ⟨rfl, ⟨nd, rfl⟩⟩) | (go_at_call 13; (with_reducible refine (sleuthlaw0_Num.calls t260 t312 _ A13.out).mono ?_); rintro e w' ⟨rfl, ⟨nd, rfl⟩⟩; obtain ⟨hcz100_0, hcz100_1, hcz100_2, hfz100_0, hfz100_1, hfz100_2⟩ := bx3_ BK252.out; obtain ⟨hcz101_0, hcz101_1, hcz101_2, hfz101_0, hfz101_1, hfz101_2⟩ := bx3_ BK270.out) | (go_at_call 12; (with_reducible refine (sleuthlaw0_SameSession.calls k _ _ t244 t247 _ _ t248 _ _ t262 t265 _ _ t266 true _ ?side1 ?side2 ?side3 ?side4 ?side5 ?side6 ?side7 ?side8 A15.out).mono ?_); (case side1 => repeat (first | exact (Kd.N_reads' HO246.out).2.2 | (with_reducible refine Kd.C_alloc ?_ _) | (with_reducible refine Kd.C_drewN ?_ _) | (with_reducible refine Kd.C_drew ?_))); (case side2 => exact (Kd.N_reads' HO246.out).2.1); (case side3 => exact cC_ (Kd.R_reads' HO250.out).2.2); (case side4 => exact (Kd.R_reads' HO250.out).2.1); (case side5 => repeat (first | exact (Kd.N_reads' HO264.out).2.2 | (with_reducible refine Kd.C_alloc ?_ _) | (with_reducible refine Kd.C_drewN ?_ _) | (with_reducible refine Kd.C_drew ?_))); (case side6 => exact (Kd.N_reads' HO264.out).2.1); (case side7 => exact cC_ (Kd.R_reads' HO268.out).2.2); (case side8 => exact (Kd.R_reads' HO268.out).2.1); rintro e w102 ⟨rfl, hb⟩; replace HO242 := a_ (Kd.N_below (hN_ HO242.out) hb); replace HO246 := a_ (Kd.N_below (hN_ HO246.out) hb); replace HO250 := a_ (Kd.R_below (hR_ HO250.out) hb); replace HO255 := a_ (Kd.N_below (hN_ HO255.out) hb); replace HO259 := a_ (Kd.R_below (hR_ HO259.out) hb); replace HO264 := a_ (Kd.N_below (hN_ HO264.out) hb); replace HO268 := a_ (Kd.R_below (hR_ HO268.out) hb); replace HO273 := a_ (Kd.N_below (hN_ HO273.out) hb); replace HO277 := a_ (Kd.R_below (hR_ HO277.out) hb); replace HO282 := a_ (Kd.N_below (hN_ HO282.out) hb); replace HO286 := a_ (Kd.R_below (hR_ HO286.out) hb); replace HO291 := a_ (Kd.N_below (hN_ HO291.out) hb); replace HO295 := a_ (Kd.R_below (hR_ HO295.out) hb); replace HO300 := a_ (Kd.N_below (hN_ HO300.out) hb); replace HO304 := a_ (Kd.R_below (hR_ HO304.out) hb); replace HO309 := a_ (Kd.R_below (hR_ HO309.out) hb); replace BK243 := a_ (bB_ BK243.out hb); replace BK252 := a_ (bB_ BK252.out hb); replace BK261 := a_ (bB_ BK261.out hb); replace BK270 := a_ (bB_ BK270.out hb); replace BK279 := a_ (bB_ BK279.out hb); replace BK288 := a_ (bB_ BK288.out hb); replace BK297 := a_ (bB_ BK297.out hb); replace BK306 := a_ (bB_ BK306.out hb); replace HB := a_ (below_step hC_ hb); (try clear hb); (try clear hb2); (try clear hk); (try clear hi)) | (go_at_call 13; (with_reducible refine (sleuthlaw0_Num.calls t269 t314 _ A17.out).mono ?_); rintro e w' ⟨rfl, ⟨nd, rfl⟩⟩) | (go_at_call 13; (with_reducible refine (sleuthlaw0_Num.calls t278 t315 _ A19.out).mono ?_); rintro e w' ⟨rfl, ⟨nd, rfl⟩⟩) | (go_at_call 13; (with_reducible refine (sleuthlaw0_Num.calls t287 t316 _ A21.out).mono ?_); rintro e w' ⟨rfl, ⟨nd, rfl⟩⟩) | (go_at_call 13; (with_reducible refine (sleuthlaw0_Num.calls t296 t317 _ A23.out).mono ?_); rintro e w' ⟨rfl, ⟨nd, rfl⟩⟩) | (go_at_call 13; (with_reducible refine (sleuthlaw0_Num.calls t305 t318 _ A25.out).mono ?_); rintro e w' ⟨rfl, ⟨nd, rfl⟩⟩))
 go_ret
 exact ⟨hV_, hC_⟩
def sleuthref12_upTo.f (a0 : Int) (a1 : Int) (a2 : Int) : Option (Bool) := if a0 ≥ a1 then (some (decide (a0 ≤ a2))) else (some false)
theorem sleuthref12_upTo.calls (a0 : Int) (a1 : Int) (a2 : Int) (r : Bool) (w : World) (h : sleuthref12_upTo.f a0 a1 a2 = some r) :
 Calls Tryz.prog 32 #[.int .i64 a0, .int .i64 a1, .int .i64 a2] w fun e w' => e = .returned (.bool r) ∧ Drawn0 w w' := by
 have H := h; unfold sleuthref12_upTo.f at H
 clear h
 by_cases c4 : a0 ≥ a1
 case pos =>
  rw [if_pos c4] at H
  have c4b0 : decide (a1 ≤ a0) = true := decide_eq_true c4
  clear c4
  obtain rfl := Option.some.inj H
  go_enter Tryz.func32, Tryz.ntmps32
  go_wp2
  go_ret
  exact ⟨by first | rfl | (simp; done) | (simp [*]; done), by repeat (first | exact Drawn0.refl _ | apply Drawn0.step)⟩
 rw [if_neg c4] at H
 have c4b0 : decide (a1 ≤ a0) = false := decide_eq_false c4
 clear c4
 obtain rfl := Option.some.inj H
 go_enter Tryz.func32, Tryz.ntmps32
 go_wp2
 go_ret
 exact ⟨by first | rfl | (simp; done) | (simp [*]; done), by repeat (first | exact Drawn0.refl _ | apply Drawn0.step)⟩

def sleuthref1_bad.f  : Option (Int × Int × List ByteArray × Int) := some (0, 0, ([] : List ByteArray), (-1))
theorem sleuthref1_bad.calls  (r1 : Int) (r2 : Int) (r3 : List ByteArray) (r4 : Int) (w : World) (h : sleuthref1_bad.f  = some (r1, r2, r3, r4)) :
 Calls Tryz.prog 74 #[] w fun e w' => ∃ v2_ : Value, e = .returned (.agg #[.int .i64 r1, .int .i64 r2, v2_, .int .i64 r4]) ∧ Kd.R Kd.string 9 w' w.heap.size (fun _ => True) v2_ r3 ∧ Below w.heap.size w w' := by
 have hu103 := Tryz.underlying103
 have HB := a_ (Below.refl w.heap.size w)
 have H := h; unfold sleuthref1_bad.f at H
 clear h
 simp only [Option.some.injEq, Prod.mk.injEq] at H
 obtain ⟨rfl, rfl, rfl, rfl⟩ := H
 go_enter Tryz.func74, Tryz.ntmps74
 go_wp2_with (first | ((with_reducible refine gate_dst (N := 0) rfl ?_); refine boxE_ 0 #[.int .i64 0, .int .i64 0, .slice none 0 0, .int .i64 0] 103 ?_; intro gb319 hg w1 hbox hb; have BK319 := a_ (hbox); have GW319 := a_ ((gE_ hg : w.heap.size ≤ gb319)); have GE319 := a_ ((gE_ hg : w.heap.size ≤ gb319)); replace HB := a_ (below_step hB_ hb); clear hb hbox hg; obtain ⟨hcz2_0, hcz2_1, hcz2_2, hcz2_3, hfz2_0, hfz2_1, hfz2_2, hfz2_3⟩ := bx4_ BK319.out))
 refine bodyPost_ret (results_cell_row rfl _ _ gb319 103 #[.int .i64 0, .int .i64 0, .slice none 0 0, .int .i64 (-1)] (0, 0) _ rfl (bP_ (bP_ (bP_ (bP_ (hK_ BK319.out))))) Tryz.underlying103 rfl (by kernel_rfl)) rfl ?_
 exact ⟨_, hV_, by first | exact Kd.R_nil _ _ _ _ _ | exact Kd.N_nil _ _ _ _ _ | exact Kd.V_nil _ _ _ _ _ | exact Kd.Q_nil _ _ _ _ _ | exact Kd.S_nil _ _ _ _ _, hC_⟩

end Go.Proofs.YtbnljapgnfmmoaaGreatDoor.G
end
section
-- Laid by the session's own driver gp.py over the kit's printer. Not trusted: Lean checks it.
namespace Go.Proofs.YtbnljapgnfmmoaaGreatDoor.G
open Go.RowKit Go.Proofs.YtbnljapgnfmmoaaGreatDoorW.PrintWords Go.Proofs.YtbnljapgnfmmoaaGreatDoorW.PrintLast Go.Proofs.YtbnljapgnfmmoaaGreatDoorW.PrintMore
set_option maxHeartbeats 8000000
set_option maxRecDepth 100000
attribute [local go_sem] max2_int min2_int max_two min_two max_three min_three max_four min_four   -- for this text's walks alone
set_option linter.unusedVariables false
set_option linter.unusedSimpArgs false

def sleuthref1_digits.l0 : Nat → ByteArray → Int → Int → Option (Int × Int)
 | 0, _, _, _ => none
 | k + 1, x0, x4, x5 => if x5 < (x0.size : Int) then (if x5 < 6 then (if 0 ≤ x5 then (if (bt x0 x5) ≥ 48 then (if (bt x0 x5) ≤ 57 then (if x5 = 0 then (sleuthref1_digits.l0 k x0 (wrap64 ((wrap64 (10 * x4)) + (((bt x0 x5) - 48) % 256))) (wrap64 (x5 + 1))) else (if 0 < (x0.size : Int) then (if (bt x0 0) = 48 then (some (x4, x5)) else (sleuthref1_digits.l0 k x0 (wrap64 ((wrap64 (10 * x4)) + (((bt x0 x5) - 48) % 256))) (wrap64 (x5 + 1)))) else (none))) else (some (x4, x5))) else (some (x4, x5))) else (none)) else (some (x4, x5))) else (some (x4, x5))
def sleuthref1_digits.f (k : Nat) (a0 : ByteArray) : Option (Int × Int) := sleuthref1_digits.l0 k a0 0 0
theorem sleuthref1_digits.mono_l : ∀ k, (∀ y0 y1 y2, LeO (sleuthref1_digits.l0 k y0 y1 y2) (sleuthref1_digits.l0 (k + 1) y0 y1 y2))
 | 0 => fun _ _ _ r h => by simp [sleuthref1_digits.l0] at h
 | k + 1 => by
  have ih0 := sleuthref1_digits.mono_l k
  · intro y0 y1 y2
    unfold sleuthref1_digits.l0
    repeat' first
    | (with_reducible exact ih0 _ _ _)
    | (with_reducible exact LeO.refl _)
    | (with_reducible exact LeO.none _)
    | (with_reducible refine LeO.ite ?_ ?_)
    | (with_reducible refine LeO.bind ?_ (fun _ => ?_))
    | exact ih0 _ _ _
    | exact LeO.none _
    | refine LeO.ite ?_ ?_
    | refine LeO.bind ?_ (fun _ => ?_)
theorem sleuthref1_digits.mono : ∀ a0 k, LeO (sleuthref1_digits.f k a0) (sleuthref1_digits.f (k + 1) a0) := by
 intro a0 k
 have ih0 := sleuthref1_digits.mono_l k
 unfold sleuthref1_digits.f
 repeat' first
  | (with_reducible exact ih0 _ _ _)
  | (with_reducible exact LeO.refl _)
  | (with_reducible exact LeO.none _)
  | (with_reducible refine LeO.ite ?_ ?_)
  | (with_reducible refine LeO.bind ?_ (fun _ => ?_))
  | exact ih0 _ _ _
  | exact LeO.none _
  | refine LeO.ite ?_ ?_
  | refine LeO.bind ?_ (fun _ => ?_)
theorem sleuthref1_digits.calls (k : Nat) (a0 : ByteArray) (r1 : Int) (r2 : Int) (w : World) (h : sleuthref1_digits.f k a0 = some (r1, r2)) :
 Calls Tryz.prog 75 #[.string a0] w fun e w' => e = .returned (.tuple #[.int .i64 r1, .int .i64 r2]) ∧ Drawn0 w w' := by
 have H : (sleuthref1_digits.l0 k a0 0 0) = some (r1, r2) := h
 clear h
 have H' := a_ H
 clear H
 go_enter Tryz.func75, Tryz.ntmps75
 go_wp2
 go_loopg [4, 5] k (fun kq v4 v5 w' => ∃ (x4_1 : Int) (x5_1 : Int), v4 = .int .i64 x4_1 ∧ v5 = .int .i64 x5_1 ∧ Aside0 (sleuthref1_digits.l0 kq a0 x4_1 x5_1 = some (r1, r2)) ∧ Aside0 (kq ≤ k) ∧ Drawn0 w w')
 case atStart => exact ⟨(0), (0), hW_, hW_, H', ⟨Nat.le_refl _⟩, by repeat (first | exact Drawn0.refl _ | apply Drawn0.step)⟩
 case round =>
  clear H'
  obtain ⟨x4_1, x5_1, rfl, rfl, HA, HK1, ⟨m1, rfl⟩⟩ := hrel
  cases gk with
  | zero => exact absurd HA.out (by simp [sleuthref1_digits.l0])
  | succ k1 =>
   have H := HA.out
   clear HA
   simp only [sleuthref1_digits.l0] at H
   by_cases c2 : x5_1 < (a0.size : Int)
   case neg =>
    rw [if_neg c2] at H
    have c2b0 : decide (x5_1 < (a0.size : Int)) = false := decide_eq_false c2
    clear c2
    simp only [Option.some.injEq, Prod.mk.injEq] at H
    obtain ⟨rfl, rfl⟩ := H
    go_wp2
    go_ret2
    exact ⟨by first | rfl | (simp; done) | (simp [*]; done), by repeat (first | exact Drawn0.refl _ | apply Drawn0.step)⟩

   rw [if_pos c2] at H
   have c2b0 : decide (x5_1 < (a0.size : Int)) = true := decide_eq_true c2
   clear c2
   by_cases c3 : x5_1 < 6
   case neg =>
    rw [if_neg c3] at H
    have c3b0 : decide (x5_1 < 6) = false := decide_eq_false c3
    clear c3
    simp only [Option.some.injEq, Prod.mk.injEq] at H
    obtain ⟨rfl, rfl⟩ := H
    go_wp2
    go_ret2
    exact ⟨by first | rfl | (simp; done) | (simp [*]; done), by repeat (first | exact Drawn0.refl _ | apply Drawn0.step)⟩
   rw [if_pos c3] at H
   have c3b0 : decide (x5_1 < 6) = true := decide_eq_true c3
   clear c3
   replace H := ifI_ H; obtain ⟨c4, H⟩ := H
   have c4b0 : decide (0 ≤ x5_1) = true := decide_eq_true c4
   clear c4
   by_cases c6 : (bt a0 x5_1) ≥ 48
   case neg =>
    rw [if_neg c6] at H
    have c6b0 : decide (48 ≤ (bt a0 x5_1)) = false := decide_eq_false c6
    clear c6
    simp only [Option.some.injEq, Prod.mk.injEq] at H
    obtain ⟨rfl, rfl⟩ := H
    have p5 : 0 ≤ (x5_1 : Int) := of_decide_eq_true hA_
    have q5 : x5_1 < (a0.size : Int) := of_decide_eq_true hA_
    have hx5 := bt_at a0 x5_1
    replace p5 := eq_true p5
    replace q5 := eq_true q5
    go_wp2
    go_ret2
    exact ⟨by first | rfl | (simp; done) | (simp [*]; done), by repeat (first | exact Drawn0.refl _ | apply Drawn0.step)⟩
   rw [if_pos c6] at H
   have c6b0 : decide (48 ≤ (bt a0 x5_1)) = true := decide_eq_true c6
   clear c6
   by_cases c8 : (bt a0 x5_1) ≤ 57
   case neg =>
    rw [if_neg c8] at H
    have c8b0 : decide ((bt a0 x5_1) ≤ 57) = false := decide_eq_false c8
    clear c8
    simp only [Option.some.injEq, Prod.mk.injEq] at H
    obtain ⟨rfl, rfl⟩ := H
    have p5 : 0 ≤ (x5_1 : Int) := of_decide_eq_true hA_
    have q5 : x5_1 < (a0.size : Int) := of_decide_eq_true hA_
    have hx5 := bt_at a0 x5_1
    replace p5 := eq_true p5
    replace q5 := eq_true q5
    have p7 : 0 ≤ (x5_1 : Int) := of_decide_eq_true hA_
    have q7 : x5_1 < (a0.size : Int) := of_decide_eq_true hA_
    have hx7 := bt_at a0 x5_1
    replace p7 := eq_true p7
    replace q7 := eq_true q7
    go_wp2
    go_ret2
    exact ⟨by first | rfl | (simp; done) | (simp [*]; done), by repeat (first | exact Drawn0.refl _ | apply Drawn0.step)⟩
   rw [if_pos c8] at H
   have c8b0 : decide ((bt a0 x5_1) ≤ 57) = true := decide_eq_true c8
   clear c8
   by_cases c9 : x5_1 = 0
   case pos =>
    rw [if_pos c9] at H
    have c9b0 : (x5_1 == 0) = true := beq_iff_eq.mpr c9
    have c9b1 : (x5_1 != 0) = false := bne_eq_false_iff_eq.mpr c9
    clear c9
    have H' := a_ H
    clear H
    have p5 : 0 ≤ (x5_1 : Int) := of_decide_eq_true hA_
    have q5 : x5_1 < (a0.size : Int) := of_decide_eq_true hA_
    have hx5 := bt_at a0 x5_1
    replace p5 := eq_true p5
    replace q5 := eq_true q5
    have p7 : 0 ≤ (x5_1 : Int) := of_decide_eq_true hA_
    have q7 : x5_1 < (a0.size : Int) := of_decide_eq_true hA_
    have hx7 := bt_at a0 x5_1
    replace p7 := eq_true p7
    replace q7 := eq_true q7
    have p10 : 0 ≤ (x5_1 : Int) := of_decide_eq_true hA_
    have q10 : x5_1 < (a0.size : Int) := of_decide_eq_true hA_
    have hx10 := bt_at a0 x5_1
    replace p10 := eq_true p10
    replace q10 := eq_true q10
    go_wp2
    go_roundg k1
    case measure => have := HK1.out; omega
    case rel => exact ⟨(wrap64 ((wrap64 (10 * x4_1)) + (((bt a0 x5_1) - 48) % 256))), (wrap64 (x5_1 + 1)), hW_, hW_, H', ⟨by have := HK1.out; omega⟩, by repeat (first | exact Drawn0.refl _ | apply Drawn0.step)⟩
   rw [if_neg c9] at H
   have c9b0 : (x5_1 == 0) = false := beq_eq_false_iff_ne.mpr c9
   have c9b1 : (x5_1 != 0) = true := bne_iff_ne.mpr c9
   replace H := ifI_ H; obtain ⟨c11, H⟩ := H
   have c11b0 : decide (0 < (a0.size : Int)) = true := decide_eq_true c11
   have c11b1 : decide (0 < a0.size) = true := decide_eq_true (by omega)
   clear c11
   by_cases c13 : (bt a0 0) = 48
   case pos =>
    rw [if_pos c13] at H
    have c13b0 : ((bt a0 0) == 48) = true := beq_iff_eq.mpr c13
    have c13b1 : ((bt a0 0) != 48) = false := bne_eq_false_iff_eq.mpr c13
    clear c13
    simp only [Option.some.injEq, Prod.mk.injEq] at H
    obtain ⟨rfl, rfl⟩ := H
    have p5 : 0 ≤ (x5_1 : Int) := of_decide_eq_true hA_
    have q5 : x5_1 < (a0.size : Int) := of_decide_eq_true hA_
    have hx5 := bt_at a0 x5_1
    replace p5 := eq_true p5
    replace q5 := eq_true q5
    have p7 : 0 ≤ (x5_1 : Int) := of_decide_eq_true hA_
    have q7 : x5_1 < (a0.size : Int) := of_decide_eq_true hA_
    have hx7 := bt_at a0 x5_1
    replace p7 := eq_true p7
    replace q7 := eq_true q7
    have p12 : 0 ≤ (0 : Int) := (by omega)
    have q12 : 0 < a0.size := (by have : (0 : Int) < (a0.size : Int) := of_decide_eq_true hA_; omega)
    have hx12 : ∀ h : 0 < a0.size, ((a0[0]'h).toNat : Int) = bt a0 0 := bt_at a0 0
    clear p12
    have qi12 : (0 < (a0.size : Int)) = True := eq_true (of_decide_eq_true hA_)
    replace q12 := eq_true q12
    go_wp2
    go_ret2
    exact ⟨by first | rfl | (simp; done) | (simp [*]; done), by repeat (first | exact Drawn0.refl _ | apply Drawn0.step)⟩
   rw [if_neg c13] at H
   have c13b0 : ((bt a0 0) == 48) = false := beq_eq_false_iff_ne.mpr c13
   have c13b1 : ((bt a0 0) != 48) = true := bne_iff_ne.mpr c13
   have H' := a_ H
   clear H
   have p5 : 0 ≤ (x5_1 : Int) := of_decide_eq_true hA_
   have q5 : x5_1 < (a0.size : Int) := of_decide_eq_true hA_
   have hx5 := bt_at a0 x5_1
   replace p5 := eq_true p5
   replace q5 := eq_true q5
   have p7 : 0 ≤ (x5_1 : Int) := of_decide_eq_true hA_
   have q7 : x5_1 < (a0.size : Int) := of_decide_eq_true hA_
   have hx7 := bt_at a0 x5_1
   replace p7 := eq_true p7
   replace q7 := eq_true q7
   have p12 : 0 ≤ (0 : Int) := (by omega)
   have q12 : 0 < a0.size := (by have : (0 : Int) < (a0.size : Int) := of_decide_eq_true hA_; omega)
   have hx12 : ∀ h : 0 < a0.size, ((a0[0]'h).toNat : Int) = bt a0 0 := bt_at a0 0
   clear p12
   have qi12 : (0 < (a0.size : Int)) = True := eq_true (of_decide_eq_true hA_)
   replace q12 := eq_true q12
   have p14 : 0 ≤ (x5_1 : Int) := of_decide_eq_true hA_
   have q14 : x5_1 < (a0.size : Int) := of_decide_eq_true hA_
   have hx14 := bt_at a0 x5_1
   replace p14 := eq_true p14
   replace q14 := eq_true q14
   go_wp2
   go_roundg k1
   case measure => have := HK1.out; omega
   case rel => exact ⟨(wrap64 ((wrap64 (10 * x4_1)) + (((bt a0 x5_1) - 48) % 256))), (wrap64 (x5_1 + 1)), hW_, hW_, H', ⟨by have := HK1.out; omega⟩, by repeat (first | exact Drawn0.refl _ | apply Drawn0.step)⟩
-- (function 76, sleuthref1_parts: with its fellows)

def sleuthref1_upTo.f (a0 : Int) (a1 : Int) (a2 : Int) : Option (Bool) := if a0 ≥ a1 then (some (decide (a0 ≤ a2))) else (some false)
theorem sleuthref1_upTo.calls (a0 : Int) (a1 : Int) (a2 : Int) (r : Bool) (w : World) (h : sleuthref1_upTo.f a0 a1 a2 = some r) :
 Calls Tryz.prog 79 #[.int .i64 a0, .int .i64 a1, .int .i64 a2] w fun e w' => e = .returned (.bool r) ∧ Drawn0 w w' := by
 have H := h; unfold sleuthref1_upTo.f at H
 clear h
 by_cases c4 : a0 ≥ a1
 case pos =>
  rw [if_pos c4] at H
  have c4b0 : decide (a1 ≤ a0) = true := decide_eq_true c4
  clear c4
  obtain rfl := Option.some.inj H
  go_enter Tryz.func79, Tryz.ntmps79
  go_wp2
  go_ret
  exact ⟨by first | rfl | (simp; done) | (simp [*]; done), by repeat (first | exact Drawn0.refl _ | apply Drawn0.step)⟩
 rw [if_neg c4] at H
 have c4b0 : decide (a1 ≤ a0) = false := decide_eq_false c4
 clear c4
 obtain rfl := Option.some.inj H
 go_enter Tryz.func79, Tryz.ntmps79
 go_wp2
 go_ret
 exact ⟨by first | rfl | (simp; done) | (simp [*]; done), by repeat (first | exact Drawn0.refl _ | apply Drawn0.step)⟩

def sleuthref1_NumMay.f (a0 : Int) : Option (Bool) := (sleuthref1_upTo.f a0 (-32768) 32767).bind fun t350 => (some t350)
theorem sleuthref1_NumMay.calls (a0 : Int) (r : Bool) (w : World) (h : sleuthref1_NumMay.f a0 = some r) :
 Calls Tryz.prog 77 #[.int .i64 a0] w fun e w' => e = .returned (.bool r) ∧ Drawn0 w w' := by
 have H := h; unfold sleuthref1_NumMay.f at H
 clear h
 replace H := Option.bind_eq_some_iff.mp H
 obtain ⟨t350, A20, H⟩ := H
 try dsimp only at H
 have A2 := a_ A20
 clear A20
 obtain rfl := Option.some.inj H
 go_enter Tryz.func77, Tryz.ntmps77
 go_wp2_with (first | ((with_reducible refine gate_callee (f := 79) rfl ?_); refine goesL_ _ rfl rfl Tryz.func79 (by kernel_rfl) rfl #[.int .i64 a0, .int .i64 (-32768), .int .i64 32767] rfl hL_ ?_; (with_reducible refine (sleuthref1_upTo.calls a0 (-32768) 32767 t350 _ A2.out).mono ?_); rintro e w' ⟨rfl, ⟨nd, rfl⟩⟩; refine ⟨_, rfl, ?_⟩))
 go_ret
 exact ⟨by first | rfl | (simp; done) | (simp [*]; done), by repeat (first | exact Drawn0.refl _ | apply Drawn0.step)⟩

end Go.Proofs.YtbnljapgnfmmoaaGreatDoor.G
end
