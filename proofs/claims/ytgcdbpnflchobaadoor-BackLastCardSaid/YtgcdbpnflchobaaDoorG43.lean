-- Laid by the session's own driver gp.py over the kit's printer. Not trusted: Lean checks it.
import Derived.Test.YtgcdbpnflchobaaDoorBase
import Derived.Test.YtgcdbpnflchobaaDoorGN
import Derived.Test.YtgcdbpnflchobaaDoorG38
import Derived.Test.YtgcdbpnflchobaaDoorG39
import Derived.Test.YtgcdbpnflchobaaDoorG40
import Derived.Test.YtgcdbpnflchobaaDoorG41
import Derived.Test.YtgcdbpnflchobaaDoorG42
namespace Go.Proofs.YtgcdbpnflchobaaDoor.G
open Go.RowKit Go.Proofs.YtgcdbpnflchobaaDoorW.PrintWords Go.Proofs.YtgcdbpnflchobaaDoorW.PrintLast Go.Proofs.YtgcdbpnflchobaaDoorW.PrintMore
attribute [local go_sem] max2_int min2_int max_two min_two max_three min_three max_four min_four   -- for this text's walks alone
set_option linter.unusedVariables false
set_option linter.unusedSimpArgs false

/-! ### sleuthlaw24_Backs: function 9 -/
def sleuthlaw24_Backs.j0 : Nat → List (S44) → List (S44) → List Int → Bool → Option (Bool)
  | 0, _, _, _, _ => none
  | k + 1, x0, x5, x6, x67 => if x67 = true then (some false) else ((sleuthlaw0_SpoilInts.f k x6).bind fun t549 => ((sleuthlaw0_SameNodes.f k x5 x0).bind fun t550 => (if t550 = true then ((sleuthlaw24_awake.f k).bind fun t551 => (some t551)) else (some false))))
def sleuthlaw24_Backs.f (k : Nat) (l0 : List (S44)) (a1 : Int) : Option (Bool) := (sleuthlaw0_CopyNodes.f k l0).bind fun t529 => ((back_Path.f k t529 a1).bind fun bt532 => ((sleuthref12_Path.f k l0 a1).bind fun bt536 => ((back_Last.f k t529).bind fun bt540 => ((sleuthref12_Last.f k l0).bind fun bt543 => ((sleuthlaw0_SameInts.f k bt532.1 bt536.1).bind fun t546 => (if t546 = true then ((sleuthlaw0_Num.f bt532.2).bind fun t547 => (if t547 = bt536.2 then (if bt540.1 = bt543.1 then (if (bt540.2.1 != bt543.2.1) = true then (sleuthlaw24_Backs.j0 k l0 t529 bt532.1 true) else ((sleuthlaw0_Num.f bt540.2.2).bind fun t548 => (sleuthlaw24_Backs.j0 k l0 t529 bt532.1 (t548 != bt543.2.2)))) else (sleuthlaw24_Backs.j0 k l0 t529 bt532.1 true)) else (sleuthlaw24_Backs.j0 k l0 t529 bt532.1 true))) else (sleuthlaw24_Backs.j0 k l0 t529 bt532.1 true)))))))
theorem sleuthlaw24_Backs.mono_l : ∀ k, (∀ y0 y1 y2 y3, LeO (sleuthlaw24_Backs.j0 k y0 y1 y2 y3) (sleuthlaw24_Backs.j0 (k + 1) y0 y1 y2 y3))
  | 0 => fun _ _ _ _ r h => by simp [sleuthlaw24_Backs.j0] at h
  | k + 1 => by
    have ih0 := sleuthlaw24_Backs.mono_l k
    · intro y0 y1 y2 y3
      unfold sleuthlaw24_Backs.j0
      repeat' first
      | (with_reducible exact ih0 _ _ _ _)
      | (with_reducible exact back_Last.mono _ _)
      | (with_reducible exact back_Path.mono _ _ _)
      | (with_reducible exact sleuthlaw0_CopyNodes.mono _ _)
      | (with_reducible exact sleuthlaw0_SameInts.mono _ _ _)
      | (with_reducible exact sleuthlaw0_SameNodes.mono _ _ _)
      | (with_reducible exact sleuthlaw0_SpoilInts.mono _ _)
      | (with_reducible exact sleuthlaw24_awake.mono _)
      | (with_reducible exact sleuthref12_Last.mono _ _)
      | (with_reducible exact sleuthref12_Path.mono _ _ _)
      | (with_reducible exact LeO.refl _)
      | (with_reducible exact LeO.none _)
      | (with_reducible refine LeO.ite ?_ ?_)
      | (with_reducible refine LeO.bind ?_ (fun _ => ?_))
      | exact ih0 _ _ _ _
      | exact back_Last.mono _ _
      | exact back_Path.mono _ _ _
      | exact sleuthlaw0_CopyNodes.mono _ _
      | exact sleuthlaw0_SameInts.mono _ _ _
      | exact sleuthlaw0_SameNodes.mono _ _ _
      | exact sleuthlaw0_SpoilInts.mono _ _
      | exact sleuthlaw24_awake.mono _
      | exact sleuthref12_Last.mono _ _
      | exact sleuthref12_Path.mono _ _ _
      | exact LeO.none _
      | refine LeO.ite ?_ ?_
      | refine LeO.bind ?_ (fun _ => ?_)
theorem sleuthlaw24_Backs.mono : ∀ a0 a1 k, LeO (sleuthlaw24_Backs.f k a0 a1) (sleuthlaw24_Backs.f (k + 1) a0 a1) := by
  intro a0 a1 k
  have ih0 := sleuthlaw24_Backs.mono_l k
  unfold sleuthlaw24_Backs.f
  repeat' first
      | (with_reducible exact ih0 _ _ _ _)
      | (with_reducible exact back_Last.mono _ _)
      | (with_reducible exact back_Path.mono _ _ _)
      | (with_reducible exact sleuthlaw0_CopyNodes.mono _ _)
      | (with_reducible exact sleuthlaw0_SameInts.mono _ _ _)
      | (with_reducible exact sleuthlaw0_SameNodes.mono _ _ _)
      | (with_reducible exact sleuthlaw0_SpoilInts.mono _ _)
      | (with_reducible exact sleuthlaw24_awake.mono _)
      | (with_reducible exact sleuthref12_Last.mono _ _)
      | (with_reducible exact sleuthref12_Path.mono _ _ _)
      | (with_reducible exact LeO.refl _)
      | (with_reducible exact LeO.none _)
      | (with_reducible refine LeO.ite ?_ ?_)
      | (with_reducible refine LeO.bind ?_ (fun _ => ?_))
      | exact ih0 _ _ _ _
      | exact back_Last.mono _ _
      | exact back_Path.mono _ _ _
      | exact sleuthlaw0_CopyNodes.mono _ _
      | exact sleuthlaw0_SameInts.mono _ _ _
      | exact sleuthlaw0_SameNodes.mono _ _ _
      | exact sleuthlaw0_SpoilInts.mono _ _
      | exact sleuthlaw24_awake.mono _
      | exact sleuthref12_Last.mono _ _
      | exact sleuthref12_Path.mono _ _ _
      | exact LeO.none _
      | refine LeO.ite ?_ ?_
      | refine LeO.bind ?_ (fun _ => ?_)
set_option maxHeartbeats 8000000 in
set_option maxRecDepth 100000 in
theorem sleuthlaw24_Backs.calls (k : Nat) (A0 : Option Addr) (c0 : Nat) (l0 : List (S44)) (a1 : Int) (r : Bool) (w : World) (hr0 : Kd.C k44 w A0 l0.length l0) (hc0 : l0.length ≤ c0) (h : sleuthlaw24_Backs.f k l0 a1 = some r) (hG : GOK w) :
    Calls Tryd.prog 9 #[.slice A0 l0.length c0, .int .i64 a1] w fun e w' => e = .returned (.bool r) ∧ Below w.heap.size w w' := by
  have HR0 := Aside0.mk hr0
  have HC0 := Aside0.mk hc0
  clear hr0 hc0
  have HB := Aside0.mk (Below.refl w.heap.size w)
  have H : ((sleuthlaw0_CopyNodes.f k l0).bind fun t529 => ((back_Path.f k t529 a1).bind fun bt532 => ((sleuthref12_Path.f k l0 a1).bind fun bt536 => ((back_Last.f k t529).bind fun bt540 => ((sleuthref12_Last.f k l0).bind fun bt543 => ((sleuthlaw0_SameInts.f k bt532.1 bt536.1).bind fun t546 => (if t546 = true then ((sleuthlaw0_Num.f bt532.2).bind fun t547 => (if t547 = bt536.2 then (if bt540.1 = bt543.1 then (if (bt540.2.1 != bt543.2.1) = true then (sleuthlaw24_Backs.j0 k l0 t529 bt532.1 true) else ((sleuthlaw0_Num.f bt540.2.2).bind fun t548 => (sleuthlaw24_Backs.j0 k l0 t529 bt532.1 (t548 != bt543.2.2)))) else (sleuthlaw24_Backs.j0 k l0 t529 bt532.1 true)) else (sleuthlaw24_Backs.j0 k l0 t529 bt532.1 true))) else (sleuthlaw24_Backs.j0 k l0 t529 bt532.1 true)))))))) = some r := h
  clear h
  replace H := Option.bind_eq_some_iff.mp H
  obtain ⟨t529, A30, H⟩ := H
  replace H : ((back_Path.f k t529 a1).bind fun bt532 => ((sleuthref12_Path.f k l0 a1).bind fun bt536 => ((back_Last.f k t529).bind fun bt540 => ((sleuthref12_Last.f k l0).bind fun bt543 => ((sleuthlaw0_SameInts.f k bt532.1 bt536.1).bind fun t546 => (if t546 = true then ((sleuthlaw0_Num.f bt532.2).bind fun t547 => (if t547 = bt536.2 then (if bt540.1 = bt543.1 then (if (bt540.2.1 != bt543.2.1) = true then (sleuthlaw24_Backs.j0 k l0 t529 bt532.1 true) else ((sleuthlaw0_Num.f bt540.2.2).bind fun t548 => (sleuthlaw24_Backs.j0 k l0 t529 bt532.1 (t548 != bt543.2.2)))) else (sleuthlaw24_Backs.j0 k l0 t529 bt532.1 true)) else (sleuthlaw24_Backs.j0 k l0 t529 bt532.1 true))) else (sleuthlaw24_Backs.j0 k l0 t529 bt532.1 true))))))) = some r := H
  have A3 := Aside0.mk A30
  clear A30
  replace H := Option.bind_eq_some_iff.mp H
  obtain ⟨⟨t532, t533⟩, A40, H⟩ := H
  replace H : ((sleuthref12_Path.f k l0 a1).bind fun bt536 => ((back_Last.f k t529).bind fun bt540 => ((sleuthref12_Last.f k l0).bind fun bt543 => ((sleuthlaw0_SameInts.f k t532 bt536.1).bind fun t546 => (if t546 = true then ((sleuthlaw0_Num.f t533).bind fun t547 => (if t547 = bt536.2 then (if bt540.1 = bt543.1 then (if (bt540.2.1 != bt543.2.1) = true then (sleuthlaw24_Backs.j0 k l0 t529 t532 true) else ((sleuthlaw0_Num.f bt540.2.2).bind fun t548 => (sleuthlaw24_Backs.j0 k l0 t529 t532 (t548 != bt543.2.2)))) else (sleuthlaw24_Backs.j0 k l0 t529 t532 true)) else (sleuthlaw24_Backs.j0 k l0 t529 t532 true))) else (sleuthlaw24_Backs.j0 k l0 t529 t532 true)))))) = some r := H
  have A4 := Aside0.mk A40
  clear A40
  replace H := Option.bind_eq_some_iff.mp H
  obtain ⟨⟨t536, t537⟩, A50, H⟩ := H
  replace H : ((back_Last.f k t529).bind fun bt540 => ((sleuthref12_Last.f k l0).bind fun bt543 => ((sleuthlaw0_SameInts.f k t532 t536).bind fun t546 => (if t546 = true then ((sleuthlaw0_Num.f t533).bind fun t547 => (if t547 = t537 then (if bt540.1 = bt543.1 then (if (bt540.2.1 != bt543.2.1) = true then (sleuthlaw24_Backs.j0 k l0 t529 t532 true) else ((sleuthlaw0_Num.f bt540.2.2).bind fun t548 => (sleuthlaw24_Backs.j0 k l0 t529 t532 (t548 != bt543.2.2)))) else (sleuthlaw24_Backs.j0 k l0 t529 t532 true)) else (sleuthlaw24_Backs.j0 k l0 t529 t532 true))) else (sleuthlaw24_Backs.j0 k l0 t529 t532 true))))) = some r := H
  have A5 := Aside0.mk A50
  clear A50
  replace H := Option.bind_eq_some_iff.mp H
  obtain ⟨⟨t540, t541, t542⟩, A60, H⟩ := H
  replace H : ((sleuthref12_Last.f k l0).bind fun bt543 => ((sleuthlaw0_SameInts.f k t532 t536).bind fun t546 => (if t546 = true then ((sleuthlaw0_Num.f t533).bind fun t547 => (if t547 = t537 then (if t540 = bt543.1 then (if (t541 != bt543.2.1) = true then (sleuthlaw24_Backs.j0 k l0 t529 t532 true) else ((sleuthlaw0_Num.f t542).bind fun t548 => (sleuthlaw24_Backs.j0 k l0 t529 t532 (t548 != bt543.2.2)))) else (sleuthlaw24_Backs.j0 k l0 t529 t532 true)) else (sleuthlaw24_Backs.j0 k l0 t529 t532 true))) else (sleuthlaw24_Backs.j0 k l0 t529 t532 true)))) = some r := H
  have A6 := Aside0.mk A60
  clear A60
  replace H := Option.bind_eq_some_iff.mp H
  obtain ⟨⟨t543, t544, t545⟩, A70, H⟩ := H
  replace H : ((sleuthlaw0_SameInts.f k t532 t536).bind fun t546 => (if t546 = true then ((sleuthlaw0_Num.f t533).bind fun t547 => (if t547 = t537 then (if t540 = t543 then (if (t541 != t544) = true then (sleuthlaw24_Backs.j0 k l0 t529 t532 true) else ((sleuthlaw0_Num.f t542).bind fun t548 => (sleuthlaw24_Backs.j0 k l0 t529 t532 (t548 != t545)))) else (sleuthlaw24_Backs.j0 k l0 t529 t532 true)) else (sleuthlaw24_Backs.j0 k l0 t529 t532 true))) else (sleuthlaw24_Backs.j0 k l0 t529 t532 true))) = some r := H
  have A7 := Aside0.mk A70
  clear A70
  have HC8 := Aside0.mk H
  clear H
  go_enter Tryd.func9, Tryd.ntmps9
  go_upto_region 6 with (first | ((with_reducible refine gate_callee (f := 14) rfl ?_); refine goesL_ (some 17) rfl rfl Tryd.func14 (by kernel_rfl) rfl #[.slice A0 l0.length c0] rfl hL_ ?_; (with_reducible refine (sleuthlaw0_CopyNodes.calls k _ _ l0 t529 _ ?side1 ?side2 A3.out).mono ?_); (case side1 => repeat (first | exact HR0.out | (with_reducible refine Kd.C_alloc ?_ _) | (with_reducible refine Kd.C_drewN ?_ _) | (with_reducible refine Kd.C_drew ?_))); (case side2 => exact HC0.out); rintro e w9 ⟨v530, rfl, ho0, hb⟩; refine ⟨_, rfl, ?_⟩; have n0_ := Aside0.mk (Kd.S_lower ho0 hS_); have n1_ := Aside0.mk (below_step hB_ hb); clear HB; have HO531 := n0_; have HB := n1_; clear n0_ n1_; (try clear hb); (try clear hb2); (try clear hk); (try clear hi); (try clear ho0); obtain ⟨Ao10, co10, eo10⟩ := Kd.S_slice HO531.out; subst eo10) | ((with_reducible refine gate_callee (f := 26) rfl ?_); refine goesL_ (some 21) rfl rfl Tryd.func26 (by kernel_rfl) rfl #[.slice Ao10 t529.length co10, .int .i64 a1] rfl hL_ ?_; (with_reducible refine (back_Path.calls k _ _ t529 a1 t532 t533 _ ?side1 ?side2 A4.out hG_).mono ?_); (case side1 => repeat (first | exact (Kd.S_reads' HO531.out).2.2 | (with_reducible refine Kd.C_alloc ?_ _) | (with_reducible refine Kd.C_drewN ?_ _) | (with_reducible refine Kd.C_drew ?_))); (case side2 => exact (Kd.S_reads' HO531.out).2.1); rintro e w11 ⟨v534, rfl, ho0, hb⟩; refine ⟨_, rfl, ?_⟩; have n0_ := Aside0.mk (Kd.S_below (by (with_reducible repeat (first | apply Kd.S_alloc | apply Kd.S_drewN | apply Kd.S_drew)); exact HO531.out) hb); have n1_ := Aside0.mk (Kd.R_lower ho0 hS_); have n2_ := Aside0.mk (below_step hB_ hb); clear HO531; clear HB; have HO531 := n0_; have HO535 := n1_; have HB := n2_; clear n0_ n1_ n2_; (try clear hb); (try clear hb2); (try clear hk); (try clear hi); (try clear ho0)) | ((with_reducible refine gate_callee (f := 27) rfl ?_); refine goesL_ (some 27) rfl rfl Tryd.func27 (by kernel_rfl) rfl #[.slice A0 l0.length c0, .int .i64 a1] rfl hL_ ?_; (with_reducible refine (sleuthref12_Path.calls k _ _ l0 a1 t536 t537 _ ?side1 ?side2 A5.out).mono ?_); (case side1 => repeat (first | exact (Kd.C_below HR0.out HB.out) | (with_reducible refine Kd.C_alloc ?_ _) | (with_reducible refine Kd.C_drewN ?_ _) | (with_reducible refine Kd.C_drew ?_))); (case side2 => exact HC0.out); rintro e w12 ⟨v538, rfl, ho0, hb⟩; refine ⟨_, rfl, ?_⟩; have n0_ := Aside0.mk (Kd.S_below (by (with_reducible repeat (first | apply Kd.S_alloc | apply Kd.S_drewN | apply Kd.S_drew)); exact HO531.out) hb); have n1_ := Aside0.mk (Kd.R_elder' (hR_ HO535.out) (Kd.R_base ho0) hb); have n2_ := Aside0.mk (Kd.R_lower (Kd.R_new' ho0 (Kd.R_lt (hR_ HO535.out))) hS_); have n3_ := Aside0.mk (below_step hB_ hb); clear HO531; clear HO535; clear HB; have HO531 := n0_; have HO535 := n1_; have HO539 := n2_; have HB := n3_; clear n0_ n1_ n2_ n3_; (try clear hb); (try clear hb2); (try clear hk); (try clear hi); (try clear ho0)) | ((with_reducible refine gate_callee (f := 28) rfl ?_); refine goesL_ (some 32) rfl rfl Tryd.func28 (by kernel_rfl) rfl #[.slice Ao10 t529.length co10] rfl hL_ ?_; (with_reducible refine (back_Last.calls k _ _ t529 t540 t541 t542 _ ?side1 ?side2 A6.out hG_).mono ?_); (case side1 => repeat (first | exact (Kd.S_reads' HO531.out).2.2 | (with_reducible refine Kd.C_alloc ?_ _) | (with_reducible refine Kd.C_drewN ?_ _) | (with_reducible refine Kd.C_drew ?_))); (case side2 => exact (Kd.S_reads' HO531.out).2.1); rintro e w13 ⟨rfl, hb⟩; refine ⟨_, rfl, ?_⟩; have n0_ := Aside0.mk (Kd.S_below (by (with_reducible repeat (first | apply Kd.S_alloc | apply Kd.S_drewN | apply Kd.S_drew)); exact HO531.out) hb); have n1_ := Aside0.mk (Kd.R_below (hR_ HO535.out) hb); have n2_ := Aside0.mk (Kd.R_below (hR_ HO539.out) hb); have n3_ := Aside0.mk (below_step hB_ hb); clear HO531; clear HO535; clear HO539; clear HB; have HO531 := n0_; have HO535 := n1_; have HO539 := n2_; have HB := n3_; clear n0_ n1_ n2_ n3_; (try clear hb); (try clear hb2); (try clear hk); (try clear hi)) | ((with_reducible refine gate_callee (f := 29) rfl ?_); refine goesL_ (some 38) rfl rfl Tryd.func29 (by kernel_rfl) rfl #[.slice A0 l0.length c0] rfl hL_ ?_; (with_reducible refine (sleuthref12_Last.calls k _ _ l0 t543 t544 t545 _ ?side1 ?side2 A7.out).mono ?_); (case side1 => repeat (first | exact (Kd.C_below HR0.out HB.out) | (with_reducible refine Kd.C_alloc ?_ _) | (with_reducible refine Kd.C_drewN ?_ _) | (with_reducible refine Kd.C_drew ?_))); (case side2 => exact HC0.out); rintro e w14 ⟨rfl, hb⟩; refine ⟨_, rfl, ?_⟩; have n0_ := Aside0.mk (Kd.S_below (by (with_reducible repeat (first | apply Kd.S_alloc | apply Kd.S_drewN | apply Kd.S_drew)); exact HO531.out) hb); have n1_ := Aside0.mk (Kd.R_below (hR_ HO535.out) hb); have n2_ := Aside0.mk (Kd.R_below (hR_ HO539.out) hb); have n3_ := Aside0.mk (below_step hB_ hb); clear HO531; clear HO535; clear HO539; clear HB; have HO531 := n0_; have HO535 := n1_; have HO539 := n2_; have HB := n3_; clear n0_ n1_ n2_ n3_; (try clear hb); (try clear hb2); (try clear hk); (try clear hi)))
  (try simp only [Act.put, List.setIfInBounds_toArray, List.set_cons_zero, List.set_cons_succ])
  go_cut [67] (fun v67 wc => ∃ (kq : Nat) (x67_7 : Bool), v67 = .bool x67_7 ∧ Aside0 (sleuthlaw24_Backs.j0 kq l0 t529 t532 x67_7 = some r) ∧ Aside0 (kq ≤ k) ∧ Aside0 (Kd.S k44 44 wc w.heap.size (fun _ => True) (.slice Ao10 t529.length co10) t529) ∧ Aside0 (Kd.R (Kd.int .i64) 3 wc w.heap.size (fun _ => True) v534 t532) ∧ Aside0 (Below w.heap.size w wc))
  case first =>
    have H := HC8.out
    clear HC8
    replace H := Option.bind_eq_some_iff.mp H
    obtain ⟨t546, A150, H⟩ := H
    replace H : (if t546 = true then ((sleuthlaw0_Num.f t533).bind fun t547 => (if t547 = t537 then (if t540 = t543 then (if (t541 != t544) = true then (sleuthlaw24_Backs.j0 k l0 t529 t532 true) else ((sleuthlaw0_Num.f t542).bind fun t548 => (sleuthlaw24_Backs.j0 k l0 t529 t532 (t548 != t545)))) else (sleuthlaw24_Backs.j0 k l0 t529 t532 true)) else (sleuthlaw24_Backs.j0 k l0 t529 t532 true))) else (sleuthlaw24_Backs.j0 k l0 t529 t532 true)) = some r := H
    have A15 := Aside0.mk A150
    clear A150
    by_cases c16 : t546 = true
    · subst c16
      have H1 : ((sleuthlaw0_Num.f t533).bind fun t547 => (if t547 = t537 then (if t540 = t543 then (if (t541 != t544) = true then (sleuthlaw24_Backs.j0 k l0 t529 t532 true) else ((sleuthlaw0_Num.f t542).bind fun t548 => (sleuthlaw24_Backs.j0 k l0 t529 t532 (t548 != t545)))) else (sleuthlaw24_Backs.j0 k l0 t529 t532 true)) else (sleuthlaw24_Backs.j0 k l0 t529 t532 true))) = some r := by rw [if_pos rfl] at H; exact H
      clear H
      have H := H1
      clear H1
      replace H := Option.bind_eq_some_iff.mp H
      obtain ⟨t547, A170, H⟩ := H
      replace H : (if t547 = t537 then (if t540 = t543 then (if (t541 != t544) = true then (sleuthlaw24_Backs.j0 k l0 t529 t532 true) else ((sleuthlaw0_Num.f t542).bind fun t548 => (sleuthlaw24_Backs.j0 k l0 t529 t532 (t548 != t545)))) else (sleuthlaw24_Backs.j0 k l0 t529 t532 true)) else (sleuthlaw24_Backs.j0 k l0 t529 t532 true)) = some r := H
      have A17 := Aside0.mk A170
      clear A170
      by_cases c18 : t547 = t537
      · rw [if_pos c18] at H
        have c18b0 : (t547 == t537) = true := beq_iff_eq.mpr c18
        have c18b1 : (t547 != t537) = false := bne_eq_false_iff_eq.mpr c18
        clear c18
        (first | rw [c18b0] | (simp only [i64_w, i32_w]; rw [c18b0]) | skip)
        by_cases c19 : t540 = t543
        · rw [if_pos c19] at H
          have c19b0 : (t540 == t543) = true := beq_iff_eq.mpr c19
          have c19b1 : (t540 != t543) = false := bne_eq_false_iff_eq.mpr c19
          clear c19
          by_cases c20 : (t541 != t544) = true
          · rw [if_pos c20] at H
            have c20b0 : (t541 != t544) = true := c20
            (try (have c20b1 : decide (t541 = t544) = false := by simpa using c20))
            (try (have c20b2 : (t541 == t544) = false := by simpa using c20))
            (try (have c20b3 : ¬ (t541 = t544) := by simpa using c20))
            clear c20
            have H' := Aside0.mk H
            clear H
            obtain ⟨Ao21, co21, eo21⟩ := Kd.R_slice HO535.out
            subst eo21
            obtain ⟨Ao22, co22, eo22⟩ := Kd.R_slice HO539.out
            subst eo22
            go_wp2_with (first | ((with_reducible refine gate_callee (f := 19) rfl ?_); refine goesL_ (some 44) rfl rfl Tryd.func19 (by kernel_rfl) rfl #[.slice Ao21 t532.length co21, .slice Ao22 t536.length co22] rfl hL_ ?_; (with_reducible refine (sleuthlaw0_SameInts.calls k _ _ t532 _ _ t536 true _ ?side1 ?side2 ?side3 ?side4 A15.out).mono ?_); (case side1 => repeat (first | exact (Kd.R_reads' HO535.out).2.2 | (with_reducible refine Kd.C_alloc ?_ _) | (with_reducible refine Kd.C_drewN ?_ _) | (with_reducible refine Kd.C_drew ?_))); (case side2 => exact (Kd.R_reads' HO535.out).2.1); (case side3 => repeat (first | exact (Kd.R_reads' HO539.out).2.2 | (with_reducible refine Kd.C_alloc ?_ _) | (with_reducible refine Kd.C_drewN ?_ _) | (with_reducible refine Kd.C_drew ?_))); (case side4 => exact (Kd.R_reads' HO539.out).2.1); rintro e w' ⟨rfl, ⟨nd, rfl⟩⟩; refine ⟨_, rfl, ?_⟩) | (go_at_call 20; (with_reducible refine (sleuthlaw0_Num.calls t533 t547 _ A17.out).mono ?_); rintro e w' ⟨rfl, ⟨nd, rfl⟩⟩))
            go_meet
            case rel => exact ⟨_, (true), (by first | rfl | (simp; done) | (simp [*]; done)), H', ⟨by first | omega | exact Nat.le_refl _⟩, ⟨by (with_reducible repeat (first | apply Kd.S_alloc | apply Kd.S_drewN | apply Kd.S_drew)); exact HO531.out⟩, ⟨by (with_reducible repeat (first | apply Kd.R_alloc | apply Kd.R_drewN | apply Kd.R_drew)); exact Kd.R_mono HO535.out (fun _ hk => trivial)⟩, ⟨by repeat (first | (with_reducible first | exact HB.out | apply below_alloc | apply pw_below_drewN | apply below_drew1) | exact HB.out)⟩⟩
          · rw [if_neg c20] at H
            have c20b0 : (t541 != t544) = false := by simpa using c20
            (try (have c20b1 : decide (t541 = t544) = true := by simpa using c20))
            (try (have c20b2 : (t541 == t544) = true := by simpa using c20))
            clear c20
            replace H := Option.bind_eq_some_iff.mp H
            obtain ⟨t548, A230, H⟩ := H
            replace H : (sleuthlaw24_Backs.j0 k l0 t529 t532 (t548 != t545)) = some r := H
            have A23 := Aside0.mk A230
            clear A230
            have H' := Aside0.mk H
            clear H
            obtain ⟨Ao24, co24, eo24⟩ := Kd.R_slice HO535.out
            subst eo24
            obtain ⟨Ao25, co25, eo25⟩ := Kd.R_slice HO539.out
            subst eo25
            go_wp2_with (first | ((with_reducible refine gate_callee (f := 19) rfl ?_); refine goesL_ (some 44) rfl rfl Tryd.func19 (by kernel_rfl) rfl #[.slice Ao24 t532.length co24, .slice Ao25 t536.length co25] rfl hL_ ?_; (with_reducible refine (sleuthlaw0_SameInts.calls k _ _ t532 _ _ t536 true _ ?side1 ?side2 ?side3 ?side4 A15.out).mono ?_); (case side1 => repeat (first | exact (Kd.R_reads' HO535.out).2.2 | (with_reducible refine Kd.C_alloc ?_ _) | (with_reducible refine Kd.C_drewN ?_ _) | (with_reducible refine Kd.C_drew ?_))); (case side2 => exact (Kd.R_reads' HO535.out).2.1); (case side3 => repeat (first | exact (Kd.R_reads' HO539.out).2.2 | (with_reducible refine Kd.C_alloc ?_ _) | (with_reducible refine Kd.C_drewN ?_ _) | (with_reducible refine Kd.C_drew ?_))); (case side4 => exact (Kd.R_reads' HO539.out).2.1); rintro e w' ⟨rfl, ⟨nd, rfl⟩⟩; refine ⟨_, rfl, ?_⟩) | (go_at_call 20; (with_reducible refine (sleuthlaw0_Num.calls t533 t547 _ A17.out).mono ?_); rintro e w' ⟨rfl, ⟨nd, rfl⟩⟩) | (go_at_call 20; (with_reducible refine (sleuthlaw0_Num.calls t542 t548 _ A23.out).mono ?_); rintro e w' ⟨rfl, ⟨nd, rfl⟩⟩))
            go_meet
            case rel => exact ⟨_, ((t548 != t545)), (by first | rfl | (simp; done) | (simp [*]; done)), H', ⟨by first | omega | exact Nat.le_refl _⟩, ⟨by (with_reducible repeat (first | apply Kd.S_alloc | apply Kd.S_drewN | apply Kd.S_drew)); exact HO531.out⟩, ⟨by (with_reducible repeat (first | apply Kd.R_alloc | apply Kd.R_drewN | apply Kd.R_drew)); exact Kd.R_mono HO535.out (fun _ hk => trivial)⟩, ⟨by repeat (first | (with_reducible first | exact HB.out | apply below_alloc | apply pw_below_drewN | apply below_drew1) | exact HB.out)⟩⟩
        · rw [if_neg c19] at H
          have c19b0 : (t540 == t543) = false := beq_eq_false_iff_ne.mpr c19
          have c19b1 : (t540 != t543) = true := bne_iff_ne.mpr c19
          have H' := Aside0.mk H
          clear H
          obtain ⟨Ao26, co26, eo26⟩ := Kd.R_slice HO535.out
          subst eo26
          obtain ⟨Ao27, co27, eo27⟩ := Kd.R_slice HO539.out
          subst eo27
          go_wp2_with (first | ((with_reducible refine gate_callee (f := 19) rfl ?_); refine goesL_ (some 44) rfl rfl Tryd.func19 (by kernel_rfl) rfl #[.slice Ao26 t532.length co26, .slice Ao27 t536.length co27] rfl hL_ ?_; (with_reducible refine (sleuthlaw0_SameInts.calls k _ _ t532 _ _ t536 true _ ?side1 ?side2 ?side3 ?side4 A15.out).mono ?_); (case side1 => repeat (first | exact (Kd.R_reads' HO535.out).2.2 | (with_reducible refine Kd.C_alloc ?_ _) | (with_reducible refine Kd.C_drewN ?_ _) | (with_reducible refine Kd.C_drew ?_))); (case side2 => exact (Kd.R_reads' HO535.out).2.1); (case side3 => repeat (first | exact (Kd.R_reads' HO539.out).2.2 | (with_reducible refine Kd.C_alloc ?_ _) | (with_reducible refine Kd.C_drewN ?_ _) | (with_reducible refine Kd.C_drew ?_))); (case side4 => exact (Kd.R_reads' HO539.out).2.1); rintro e w' ⟨rfl, ⟨nd, rfl⟩⟩; refine ⟨_, rfl, ?_⟩) | (go_at_call 20; (with_reducible refine (sleuthlaw0_Num.calls t533 t547 _ A17.out).mono ?_); rintro e w' ⟨rfl, ⟨nd, rfl⟩⟩))
          go_meet
          case rel => exact ⟨_, (true), (by first | rfl | (simp; done) | (simp [*]; done)), H', ⟨by first | omega | exact Nat.le_refl _⟩, ⟨by (with_reducible repeat (first | apply Kd.S_alloc | apply Kd.S_drewN | apply Kd.S_drew)); exact HO531.out⟩, ⟨by (with_reducible repeat (first | apply Kd.R_alloc | apply Kd.R_drewN | apply Kd.R_drew)); exact Kd.R_mono HO535.out (fun _ hk => trivial)⟩, ⟨by repeat (first | (with_reducible first | exact HB.out | apply below_alloc | apply pw_below_drewN | apply below_drew1) | exact HB.out)⟩⟩
      · rw [if_neg c18] at H
        have c18b0 : (t547 == t537) = false := beq_eq_false_iff_ne.mpr c18
        have c18b1 : (t547 != t537) = true := bne_iff_ne.mpr c18
        (first | rw [c18b0] | (simp only [i64_w, i32_w]; rw [c18b0]) | skip)
        have H' := Aside0.mk H
        clear H
        obtain ⟨Ao28, co28, eo28⟩ := Kd.R_slice HO535.out
        subst eo28
        obtain ⟨Ao29, co29, eo29⟩ := Kd.R_slice HO539.out
        subst eo29
        go_wp2_with (first | ((with_reducible refine gate_callee (f := 19) rfl ?_); refine goesL_ (some 44) rfl rfl Tryd.func19 (by kernel_rfl) rfl #[.slice Ao28 t532.length co28, .slice Ao29 t536.length co29] rfl hL_ ?_; (with_reducible refine (sleuthlaw0_SameInts.calls k _ _ t532 _ _ t536 true _ ?side1 ?side2 ?side3 ?side4 A15.out).mono ?_); (case side1 => repeat (first | exact (Kd.R_reads' HO535.out).2.2 | (with_reducible refine Kd.C_alloc ?_ _) | (with_reducible refine Kd.C_drewN ?_ _) | (with_reducible refine Kd.C_drew ?_))); (case side2 => exact (Kd.R_reads' HO535.out).2.1); (case side3 => repeat (first | exact (Kd.R_reads' HO539.out).2.2 | (with_reducible refine Kd.C_alloc ?_ _) | (with_reducible refine Kd.C_drewN ?_ _) | (with_reducible refine Kd.C_drew ?_))); (case side4 => exact (Kd.R_reads' HO539.out).2.1); rintro e w' ⟨rfl, ⟨nd, rfl⟩⟩; refine ⟨_, rfl, ?_⟩) | (go_at_call 20; (with_reducible refine (sleuthlaw0_Num.calls t533 t547 _ A17.out).mono ?_); rintro e w' ⟨rfl, ⟨nd, rfl⟩⟩))
        go_meet
        case rel => exact ⟨_, (true), (by first | rfl | (simp; done) | (simp [*]; done)), H', ⟨by first | omega | exact Nat.le_refl _⟩, ⟨by (with_reducible repeat (first | apply Kd.S_alloc | apply Kd.S_drewN | apply Kd.S_drew)); exact HO531.out⟩, ⟨by (with_reducible repeat (first | apply Kd.R_alloc | apply Kd.R_drewN | apply Kd.R_drew)); exact Kd.R_mono HO535.out (fun _ hk => trivial)⟩, ⟨by repeat (first | (with_reducible first | exact HB.out | apply below_alloc | apply pw_below_drewN | apply below_drew1) | exact HB.out)⟩⟩
    · replace c16 := Bool.eq_false_iff.mpr c16
      subst c16
      have H1 : (sleuthlaw24_Backs.j0 k l0 t529 t532 true) = some r := by rw [if_neg (show ¬ (false = true) by decide)] at H; exact H
      clear H
      have H := H1
      clear H1
      have H' := Aside0.mk H
      clear H
      obtain ⟨Ao30, co30, eo30⟩ := Kd.R_slice HO535.out
      subst eo30
      obtain ⟨Ao31, co31, eo31⟩ := Kd.R_slice HO539.out
      subst eo31
      go_wp2_with (first | ((with_reducible refine gate_callee (f := 19) rfl ?_); refine goesL_ (some 44) rfl rfl Tryd.func19 (by kernel_rfl) rfl #[.slice Ao30 t532.length co30, .slice Ao31 t536.length co31] rfl hL_ ?_; (with_reducible refine (sleuthlaw0_SameInts.calls k _ _ t532 _ _ t536 false _ ?side1 ?side2 ?side3 ?side4 A15.out).mono ?_); (case side1 => repeat (first | exact (Kd.R_reads' HO535.out).2.2 | (with_reducible refine Kd.C_alloc ?_ _) | (with_reducible refine Kd.C_drewN ?_ _) | (with_reducible refine Kd.C_drew ?_))); (case side2 => exact (Kd.R_reads' HO535.out).2.1); (case side3 => repeat (first | exact (Kd.R_reads' HO539.out).2.2 | (with_reducible refine Kd.C_alloc ?_ _) | (with_reducible refine Kd.C_drewN ?_ _) | (with_reducible refine Kd.C_drew ?_))); (case side4 => exact (Kd.R_reads' HO539.out).2.1); rintro e w' ⟨rfl, ⟨nd, rfl⟩⟩; refine ⟨_, rfl, ?_⟩))
      go_meet
      case rel => exact ⟨_, (true), (by first | rfl | (simp; done) | (simp [*]; done)), H', ⟨by first | omega | exact Nat.le_refl _⟩, ⟨by (with_reducible repeat (first | apply Kd.S_alloc | apply Kd.S_drewN | apply Kd.S_drew)); exact HO531.out⟩, ⟨by (with_reducible repeat (first | apply Kd.R_alloc | apply Kd.R_drewN | apply Kd.R_drew)); exact Kd.R_mono HO535.out (fun _ hk => trivial)⟩, ⟨by repeat (first | (with_reducible first | exact HB.out | apply below_alloc | apply pw_below_drewN | apply below_drew1) | exact HB.out)⟩⟩
  case rest =>
    clear HC8
    try clear c1
    try clear c2
    try clear p2
    try clear c9
    try clear c14
    try clear c16
    try clear c18
    try clear c18b0
    try clear c18b1
    try clear c19
    try clear c19b0
    try clear c19b1
    try clear c20
    try clear c20b0
    try clear c20b1
    try clear c20b2
    try clear c26
    try clear c27
    try clear c28
    try clear c29
    obtain ⟨kq, x67_7, rfl, HA, HJ7, HO_5, HO_6, HB⟩ := hcut
    cases kq with
    | zero => exact absurd HA.out (by simp [sleuthlaw24_Backs.j0])
    | succ kj7 =>
      have H := HA.out
      clear HA
      simp only [sleuthlaw24_Backs.j0] at H
      by_cases c32 : x67_7 = true
      · subst c32
        have H1 : (some false) = some r := by rw [if_pos rfl] at H; exact H
        clear H
        have H := H1
        clear H1
        obtain rfl := Option.some.inj H
        go_wp2
        go_ret
        exact ⟨by first | rfl | (simp [errW_none, errW_some] <;> rfl) | (simp [*, errW_none, errW_some] <;> rfl), by repeat (first | (with_reducible first | exact HB.out | apply below_alloc | apply pw_below_drewN | apply below_drew1) | exact HB.out)⟩
      · replace c32 := Bool.eq_false_iff.mpr c32
        subst c32
        have H1 : ((sleuthlaw0_SpoilInts.f kj7 t532).bind fun t549 => ((sleuthlaw0_SameNodes.f kj7 t529 l0).bind fun t550 => (if t550 = true then ((sleuthlaw24_awake.f kj7).bind fun t551 => (some t551)) else (some false)))) = some r := by rw [if_neg (show ¬ (false = true) by decide)] at H; exact H
        clear H
        have H := H1
        clear H1
        replace H := Option.bind_eq_some_iff.mp H
        obtain ⟨t549, A330, H⟩ := H
        replace H : ((sleuthlaw0_SameNodes.f kj7 t529 l0).bind fun t550 => (if t550 = true then ((sleuthlaw24_awake.f kj7).bind fun t551 => (some t551)) else (some false))) = some r := H
        have A33 := Aside0.mk A330
        clear A330
        replace H := Option.bind_eq_some_iff.mp H
        obtain ⟨t550, A340, H⟩ := H
        replace H : (if t550 = true then ((sleuthlaw24_awake.f kj7).bind fun t551 => (some t551)) else (some false)) = some r := H
        have A34 := Aside0.mk A340
        clear A340
        by_cases c35 : t550 = true
        · subst c35
          have H1 : ((sleuthlaw24_awake.f kj7).bind fun t551 => (some t551)) = some r := by rw [if_pos rfl] at H; exact H
          clear H
          have H := H1
          clear H1
          replace H := Option.bind_eq_some_iff.mp H
          obtain ⟨t551, A360, H⟩ := H
          replace H : (some t551) = some r := H
          have A36 := Aside0.mk A360
          clear A360
          obtain rfl := Option.some.inj H
          obtain ⟨Ao37, co37, eo37⟩ := Kd.R_slice HO_6.out
          subst eo37
          go_wp2_with (first | ((with_reducible refine gate_callee (f := 21) rfl ?_); refine goesL_ (some 69) rfl rfl Tryd.func21 (by kernel_rfl) rfl #[.slice Ao37 t532.length co37] rfl hL_ ?_; (with_reducible refine (sleuthlaw0_SpoilInts.calls kj7 (fun k_ => some k_ = (.slice Ao37 t532.length co37 : Value).ownBlock) (.slice Ao37 t532.length co37) t532 t549 w _ ?side1 ?side2 A33.out).mono ?_); (case side1 => repeat (first | (with_reducible first | exact HB.out | apply below_alloc | apply pw_below_drewN | apply below_drew1) | exact HB.out)); (case side2 => exact Kd.R_tight rfl HO_6.out); rintro e w38 ⟨rfl, hy0, hb, hkp⟩; refine ⟨_, rfl, ?_⟩; have n0_ := Aside0.mk (Kd.S_mono (ok' := fun k_ => True) (Kd.S_keptB ((Kd.S_apart' HO_5.out (Kd.R_typed HO_6.out) (by decide))) hkp (fun k_ hk_ hs_ => (hk_.2) hs_)) (fun k_ hk_ => trivial)); have n1_ := Aside0.mk (Kd.R_reok rfl hy0 (fun k_ e_ => HO_6.out.1 k_ e_)); have n2_ := Aside0.mk (hb); clear HO_5; clear HO_6; clear HB; have HO_5 := n0_; have HO_6 := n1_; have HB := n2_; clear n0_ n1_ n2_; (try clear hb); (try clear hkp); (try clear hy0)) | ((with_reducible refine gate_callee (f := 22) rfl ?_); refine goesL_ (some 72) rfl rfl Tryd.func22 (by kernel_rfl) rfl #[.slice Ao10 t529.length co10, .slice A0 l0.length c0] rfl hL_ ?_; (with_reducible refine (sleuthlaw0_SameNodes.calls kj7 _ _ t529 _ _ l0 true _ ?side1 ?side2 ?side3 ?side4 A34.out).mono ?_); (case side1 => repeat (first | exact (Kd.S_reads' HO_5.out).2.2 | (with_reducible refine Kd.C_alloc ?_ _) | (with_reducible refine Kd.C_drewN ?_ _) | (with_reducible refine Kd.C_drew ?_))); (case side2 => exact (Kd.S_reads' HO_5.out).2.1); (case side3 => repeat (first | exact (Kd.C_below HR0.out HB.out) | (with_reducible refine Kd.C_alloc ?_ _) | (with_reducible refine Kd.C_drewN ?_ _) | (with_reducible refine Kd.C_drew ?_))); (case side4 => exact HC0.out); rintro e w39 ⟨rfl, hb⟩; refine ⟨_, rfl, ?_⟩; have n0_ := Aside0.mk (Kd.S_below (by (with_reducible repeat (first | apply Kd.S_alloc | apply Kd.S_drewN | apply Kd.S_drew)); exact HO_5.out) hb); have n1_ := Aside0.mk (Kd.R_below (hR_ HO_6.out) hb); have n2_ := Aside0.mk (below_step hB_ hb); clear HO_5; clear HO_6; clear HB; have HO_5 := n0_; have HO_6 := n1_; have HB := n2_; clear n0_ n1_ n2_; (try clear hb); (try clear hb2); (try clear hk); (try clear hi)) | (go_at_call 30; (with_reducible refine (sleuthlaw24_awake.calls kj7  t551 _ A36.out hG_).mono ?_); rintro e w40 ⟨rfl, hb⟩; have n0_ := Aside0.mk (Kd.S_below (by (with_reducible repeat (first | apply Kd.S_alloc | apply Kd.S_drewN | apply Kd.S_drew)); exact HO_5.out) hb); have n1_ := Aside0.mk (Kd.R_below (hR_ HO_6.out) hb); have n2_ := Aside0.mk (below_step hB_ hb); clear HO_5; clear HO_6; clear HB; have HO_5 := n0_; have HO_6 := n1_; have HB := n2_; clear n0_ n1_ n2_; (try clear hb); (try clear hb2); (try clear hk); (try clear hi)))
          go_ret
          exact ⟨by first | rfl | (simp [errW_none, errW_some] <;> rfl) | (simp [*, errW_none, errW_some] <;> rfl), by repeat (first | (with_reducible first | exact HB.out | apply below_alloc | apply pw_below_drewN | apply below_drew1) | exact HB.out)⟩
        · replace c35 := Bool.eq_false_iff.mpr c35
          subst c35
          have H1 : (some false) = some r := by rw [if_neg (show ¬ (false = true) by decide)] at H; exact H
          clear H
          have H := H1
          clear H1
          obtain rfl := Option.some.inj H
          obtain ⟨Ao41, co41, eo41⟩ := Kd.R_slice HO_6.out
          subst eo41
          go_wp2_with (first | ((with_reducible refine gate_callee (f := 21) rfl ?_); refine goesL_ (some 69) rfl rfl Tryd.func21 (by kernel_rfl) rfl #[.slice Ao41 t532.length co41] rfl hL_ ?_; (with_reducible refine (sleuthlaw0_SpoilInts.calls kj7 (fun k_ => some k_ = (.slice Ao41 t532.length co41 : Value).ownBlock) (.slice Ao41 t532.length co41) t532 t549 w _ ?side1 ?side2 A33.out).mono ?_); (case side1 => repeat (first | (with_reducible first | exact HB.out | apply below_alloc | apply pw_below_drewN | apply below_drew1) | exact HB.out)); (case side2 => exact Kd.R_tight rfl HO_6.out); rintro e w42 ⟨rfl, hy0, hb, hkp⟩; refine ⟨_, rfl, ?_⟩; have n0_ := Aside0.mk (Kd.S_mono (ok' := fun k_ => True) (Kd.S_keptB ((Kd.S_apart' HO_5.out (Kd.R_typed HO_6.out) (by decide))) hkp (fun k_ hk_ hs_ => (hk_.2) hs_)) (fun k_ hk_ => trivial)); have n1_ := Aside0.mk (Kd.R_reok rfl hy0 (fun k_ e_ => HO_6.out.1 k_ e_)); have n2_ := Aside0.mk (hb); clear HO_5; clear HO_6; clear HB; have HO_5 := n0_; have HO_6 := n1_; have HB := n2_; clear n0_ n1_ n2_; (try clear hb); (try clear hkp); (try clear hy0)) | ((with_reducible refine gate_callee (f := 22) rfl ?_); refine goesL_ (some 72) rfl rfl Tryd.func22 (by kernel_rfl) rfl #[.slice Ao10 t529.length co10, .slice A0 l0.length c0] rfl hL_ ?_; (with_reducible refine (sleuthlaw0_SameNodes.calls kj7 _ _ t529 _ _ l0 false _ ?side1 ?side2 ?side3 ?side4 A34.out).mono ?_); (case side1 => repeat (first | exact (Kd.S_reads' HO_5.out).2.2 | (with_reducible refine Kd.C_alloc ?_ _) | (with_reducible refine Kd.C_drewN ?_ _) | (with_reducible refine Kd.C_drew ?_))); (case side2 => exact (Kd.S_reads' HO_5.out).2.1); (case side3 => repeat (first | exact (Kd.C_below HR0.out HB.out) | (with_reducible refine Kd.C_alloc ?_ _) | (with_reducible refine Kd.C_drewN ?_ _) | (with_reducible refine Kd.C_drew ?_))); (case side4 => exact HC0.out); rintro e w43 ⟨rfl, hb⟩; refine ⟨_, rfl, ?_⟩; have n0_ := Aside0.mk (Kd.S_below (by (with_reducible repeat (first | apply Kd.S_alloc | apply Kd.S_drewN | apply Kd.S_drew)); exact HO_5.out) hb); have n1_ := Aside0.mk (Kd.R_below (hR_ HO_6.out) hb); have n2_ := Aside0.mk (below_step hB_ hb); clear HO_5; clear HO_6; clear HB; have HO_5 := n0_; have HO_6 := n1_; have HB := n2_; clear n0_ n1_ n2_; (try clear hb); (try clear hb2); (try clear hk); (try clear hi)))
          go_ret
          exact ⟨by first | rfl | (simp [errW_none, errW_some] <;> rfl) | (simp [*, errW_none, errW_some] <;> rfl), by repeat (first | (with_reducible first | exact HB.out | apply below_alloc | apply pw_below_drewN | apply below_drew1) | exact HB.out)⟩

end Go.Proofs.YtgcdbpnflchobaaDoor.G
