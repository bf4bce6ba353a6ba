-- Laid by the session's own driver gp.py over the kit's printer. Not trusted: Lean checks it.
import Derived.Test.YtnhmmbgnaogokaaDoorU2
import Derived.Test.YtnhmmbgnaogokaaDoorG0
import Derived.Test.YtnhmmbgnaogokaaDoorU6
import Derived.Test.YtnhmmbgnaogokaaDoorU7
import Derived.Test.YtnhmmbgnaogokaaDoorU9
namespace Go.Proofs.YtnhmmbgnaogokaaDoor.G
open Go.RowKit Go.Proofs.YtnhmmbgnaogokaaDoorW.PrintWords Go.Proofs.YtnhmmbgnaogokaaDoorW.PrintLast Go.Proofs.YtnhmmbgnaogokaaDoorW.PrintMore
set_option maxHeartbeats 8000000
set_option maxRecDepth 100000
attribute [local go_sem] max2_int min2_int max_two min_two max_three min_three max_four min_four   -- for this text's walks alone
set_option linter.unusedVariables false
set_option linter.unusedSimpArgs false

def sleuthlaw17_FileTwo.j0 : Nat → List (S37) → ByteArray → Int → Bool → Option (Bool)
 | 0, _, _, _, _ => none
 | k + 1, x0, x3, x4, x22 => if x22 = true then ((sleuthlaw0_Num.f x4).bind fun t353 => (if t353 = 0 then (some true) else (some (x3.toList == ([] : List UInt8))))) else (if x3.size + x3.size ≤ 9223372036854775807 then ((file_Load.f k (x3 ++ x3)).bind fun bt354 => ((sleuthlaw0_SameNodes.f k bt354.1 x0).bind fun t358 => (if t358 = true then (if bt354.2 = (x3.size : Int) then ((sleuthref12_TrailMay.f k x0).bind fun t359 => (some t359)) else (none)) else (none)))) else (none))
def sleuthlaw17_FileTwo.f (k : Nat) (l0 : List (S37)) : Option (Bool) := (sleuthlaw17_awake.f k).bind fun t349 => (if t349 = true then ((file_Text.f k l0).bind fun bt350 => ((sleuthlaw0_Num.f bt350.2).bind fun t352 => (if t352 = 0 then (sleuthlaw17_FileTwo.j0 k l0 bt350.1 bt350.2 (decide ((wrap64 (2 * (bt350.1.size : Int))) > 65536))) else (sleuthlaw17_FileTwo.j0 k l0 bt350.1 bt350.2 true)))) else (none))
theorem sleuthlaw17_FileTwo.calls (k : Nat) (A0 : Option Addr) (c0 : Nat) (l0 : List (S37)) (r : Bool) (w : World) (hr0 : Kd.C k37 w A0 l0.length l0) (hc0 : l0.length ≤ c0) (h : sleuthlaw17_FileTwo.f k l0 = some r) (hG : GOK w) :
 Calls Tryd.prog 6 #[.slice A0 l0.length c0] w fun e w' => e = .returned (.bool r) ∧ Below w.heap.size w w' := by
 have HR0 := a_ hr0
 have HC0 := a_ hc0
 clear hr0 hc0
 have HB := a_ (Below.refl w.heap.size w)
 have H := h; unfold sleuthlaw17_FileTwo.f at H
 clear h
 replace H := Option.bind_eq_some_iff.mp H
 obtain ⟨t6, A20, H⟩ := H
 try dsimp only at H
 have A2 := a_ A20
 clear A20
 by_cases c3 : t6 = true
 case neg =>
  replace c3 := Bool.eq_false_iff.mpr c3
  subst c3
  rw [if_neg (show ¬ (false = true) by decide)] at H
  cases H
 subst c3
 rw [if_pos rfl] at H
 replace H := Option.bind_eq_some_iff.mp H
 obtain ⟨⟨t0, t1⟩, A40, H⟩ := H
 try dsimp only at H
 have A4 := a_ A40
 clear A40
 have HC5 := a_ H
 clear H
 go_enter Tryd.func6, Tryd.ntmps6
 go_upto_region 4 with (first | ((with_reducible refine gate_callee (f := 7) rfl ?_); refine goesL_ (some 7) rfl rfl Tryd.func7 (by kernel_rfl) rfl #[] rfl hL_ ?_; (with_reducible refine (sleuthlaw17_awake.calls k  true _ A2.out hG_).mono ?_); rintro e w6 ⟨rfl, hb⟩; refine ⟨_, rfl, ?_⟩; replace HB := a_ (below_step hB_ hb); (try clear hb); (try clear hb2); (try clear hk); (try clear hi)) | ((with_reducible refine gate_callee (f := 8) rfl ?_); refine goesL_ (some 11) rfl rfl Tryd.func8 (by kernel_rfl) rfl #[.slice A0 l0.length c0] rfl hL_ ?_; (with_reducible refine (file_Text.calls k _ _ l0 t0 t1 _ ?s1 ?s2 A4.out hG_).mono ?_); (case s1 => exact cB_ HR0.out); (case s2 => exact HC0.out); rintro e w7 ⟨rfl, hb⟩; refine ⟨_, rfl, ?_⟩; replace HB := a_ (below_step hB_ hb); (try clear hb); (try clear hb2); (try clear hk); (try clear hi)))
 (try simp only [Act.put, List.setIfInBounds_toArray, List.set_cons_zero, List.set_cons_succ])
 go_cut [22] (fun v0 wc => ∃ (kq : Nat) (x0 : Bool), v0 = .bool x0 ∧ Aside0 (sleuthlaw17_FileTwo.j0 kq l0 t0 t1 x0 = some r) ∧ Aside0 (kq ≤ k) ∧ Aside0 (Below w.heap.size w wc))
 case first =>
  have H := HC5.out
  clear HC5
  replace H := Option.bind_eq_some_iff.mp H
  obtain ⟨t2, A80, H⟩ := H
  try dsimp only at H
  have A8 := a_ A80
  clear A80
  by_cases c9 : t2 = 0
  case neg =>
   rw [if_neg c9] at H
   have c9b0 : (t2 == 0) = false := beq_eq_false_iff_ne.mpr c9
   have c9b1 : (t2 != 0) = true := bne_iff_ne.mpr c9
   (first | rw [c9b0] | (simp only [i64_w, i32_w]; rw [c9b0]) | skip)
   have H' := a_ H
   clear H
   go_wp2_with (first | ((with_reducible refine gate_callee (f := 9) rfl ?_); refine goesL_ _ rfl rfl Tryd.func9 (by kernel_rfl) rfl #[.int .i64 t1] rfl hL_ ?_; (with_reducible refine (sleuthlaw0_Num.calls t1 t2 _ A8.out).mono ?_); rintro e w' ⟨rfl, ⟨nd, rfl⟩⟩; refine ⟨_, rfl, ?_⟩))
   go_meet
   case rel => exact ⟨_, (true), hW_, H', ⟨by first | omega | exact Nat.le_refl _⟩, ⟨hC_⟩⟩
  rw [if_pos c9] at H
  have c9b0 : (t2 == 0) = true := beq_iff_eq.mpr c9
  have c9b1 : (t2 != 0) = false := bne_eq_false_iff_eq.mpr c9
  clear c9
  (first | rw [c9b0] | (simp only [i64_w, i32_w]; rw [c9b0]) | skip)
  have H' := a_ H
  clear H
  go_wp2_with (first | ((with_reducible refine gate_callee (f := 9) rfl ?_); refine goesL_ _ rfl rfl Tryd.func9 (by kernel_rfl) rfl #[.int .i64 t1] rfl hL_ ?_; (with_reducible refine (sleuthlaw0_Num.calls t1 t2 _ A8.out).mono ?_); rintro e w' ⟨rfl, ⟨nd, rfl⟩⟩; refine ⟨_, rfl, ?_⟩))
  go_meet
  case rel => exact ⟨_, (decide ((wrap64 (2 * (t0.size : Int))) > 65536)), hW_, H', ⟨by first | omega | exact Nat.le_refl _⟩, ⟨hC_⟩⟩
 case rest =>
  clear HC5
  try clear p2
  try clear c3
  try clear c6
  try clear p6
  try clear c7
  try clear c8
  try clear c9
  try clear c9b0
  try clear c9b1
  obtain ⟨kq, x0, rfl, HA, HJ4, HB⟩ := hcut
  cases kq with
  | zero => exact absurd HA.out (by simp [sleuthlaw17_FileTwo.j0])
  | succ kj4 =>
   have H := HA.out
   clear HA
   simp only [sleuthlaw17_FileTwo.j0] at H
   by_cases c10 : x0 = true
   case pos =>
    subst c10
    rw [if_pos rfl] at H
    replace H := Option.bind_eq_some_iff.mp H
    obtain ⟨t3, A110, H⟩ := H
    try dsimp only at H
    have A11 := a_ A110
    clear A110
    by_cases c12 : t3 = 0
    case neg =>
     rw [if_neg c12] at H
     have c12b0 : (t3 == 0) = false := beq_eq_false_iff_ne.mpr c12
     have c12b1 : (t3 != 0) = true := bne_iff_ne.mpr c12
     obtain rfl := Option.some.inj H
     go_wp2_with (first | ((with_reducible refine gate_callee (f := 9) rfl ?_); refine goesL_ _ rfl rfl Tryd.func9 (by kernel_rfl) rfl #[.int .i64 t1] rfl hL_ ?_; (with_reducible refine (sleuthlaw0_Num.calls t1 t3 _ A11.out).mono ?_); rintro e w' ⟨rfl, ⟨nd, rfl⟩⟩; refine ⟨_, rfl, ?_⟩))
     go_ret
     exact ⟨hV_, hC_⟩
    rw [if_pos c12] at H
    have c12b0 : (t3 == 0) = true := beq_iff_eq.mpr c12
    have c12b1 : (t3 != 0) = false := bne_eq_false_iff_eq.mpr c12
    clear c12
    obtain rfl := Option.some.inj H
    go_wp2_with (first | ((with_reducible refine gate_callee (f := 9) rfl ?_); refine goesL_ _ rfl rfl Tryd.func9 (by kernel_rfl) rfl #[.int .i64 t1] rfl hL_ ?_; (with_reducible refine (sleuthlaw0_Num.calls t1 t3 _ A11.out).mono ?_); rintro e w' ⟨rfl, ⟨nd, rfl⟩⟩; refine ⟨_, rfl, ?_⟩))
    go_ret
    exact ⟨hV_, hC_⟩
   replace c10 := Bool.eq_false_iff.mpr c10
   subst c10
   rw [if_neg (show ¬ (false = true) by decide)] at H
   replace H := ifI_ H; obtain ⟨c13, H⟩ := H
   have c13b0 := eq_true c13
   have c13b1 : decide (t0.size + t0.size ≤ 9223372036854775807) = true := decide_eq_true c13
   try have c13b2 : (9223372036854775807 < t0.size + t0.size) = False := eq_false (Nat.not_lt.2 c13)
   replace H := Option.bind_eq_some_iff.mp H
   obtain ⟨⟨t5, t4⟩, A140, H⟩ := H
   try dsimp only at H
   have A14 := a_ A140
   clear A140
   replace H := Option.bind_eq_some_iff.mp H
   obtain ⟨t7, A150, H⟩ := H
   try dsimp only at H
   have A15 := a_ A150
   clear A150
   by_cases c16 : t7 = true
   case neg =>
    replace c16 := Bool.eq_false_iff.mpr c16
    subst c16
    rw [if_neg (show ¬ (false = true) by decide)] at H
    cases H
   subst c16
   rw [if_pos rfl] at H
   by_cases c17 : t4 = (t0.size : Int)
   case neg =>
    rw [if_neg c17] at H
    have c17b0 : (t4 == (t0.size : Int)) = false := beq_eq_false_iff_ne.mpr c17
    have c17b1 : (t4 != (t0.size : Int)) = true := bne_iff_ne.mpr c17
    cases H
   rw [if_pos c17] at H
   have c17b0 : (t4 == (t0.size : Int)) = true := beq_iff_eq.mpr c17
   have c17b1 : (t4 != (t0.size : Int)) = false := bne_eq_false_iff_eq.mpr c17
   clear c17
   replace H := Option.bind_eq_some_iff.mp H
   obtain ⟨t8, A180, H⟩ := H
   try dsimp only at H
   have A18 := a_ A180
   clear A180
   obtain rfl := Option.some.inj H
   go_wp2_with (first | ((with_reducible refine gate_callee (f := 10) rfl ?_); refine goesL_ (some 34) rfl rfl Tryd.func10 (by kernel_rfl) rfl #[.string (t0 ++ t0)] rfl hL_ ?_; (with_reducible refine (file_Load.calls kj4 (t0 ++ t0) t5 t4 _ A14.out hG_).mono ?_); rintro e w0 ⟨v1, rfl, ho0, hb⟩; refine ⟨_, rfl, ?_⟩; have P0 := a_ (Kd.S_lower ho0 hS_); replace HB := a_ (below_step hB_ hb); (try clear hb); (try clear hb2); (try clear hk); (try clear hi); (try clear ho0); obtain ⟨a0, o0, e0⟩ := Kd.S_slice P0.out; subst e0) | ((with_reducible refine gate_callee (f := 11) rfl ?_); refine goesL_ (some 39) rfl rfl Tryd.func11 (by kernel_rfl) rfl #[.slice a0 t5.length o0, .slice A0 l0.length c0] rfl hL_ ?_; (with_reducible refine (sleuthlaw0_SameNodes.calls kj4 _ _ t5 _ _ l0 true _ ?s1 ?s2 ?s3 ?s4 A15.out).mono ?_); (case s1 => repeat (first | exact (Kd.S_reads' P0.out).2.2 | (with_reducible refine Kd.C_alloc ?_ _) | (with_reducible refine Kd.C_drewN ?_ _) | (with_reducible refine Kd.C_drew ?_))); (case s2 => exact (Kd.S_reads' P0.out).2.1); (case s3 => exact cB_ HR0.out); (case s4 => exact HC0.out); rintro e w1 ⟨rfl, hb⟩; refine ⟨_, rfl, ?_⟩; replace P0 := a_ (Kd.S_below (by (with_reducible repeat (first | apply Kd.S_alloc | apply Kd.S_drewN | apply Kd.S_drew)); exact P0.out) hb); replace HB := a_ (below_step hB_ hb); (try clear hb); (try clear hb2); (try clear hk); (try clear hi)) | (go_at_call 12; (with_reducible refine (sleuthref12_TrailMay.calls kj4 _ _ l0 t8 _ ?s1 ?s2 A18.out).mono ?_); (case s1 => exact cB_ HR0.out); (case s2 => exact HC0.out); rintro e w2 ⟨rfl, hb⟩; replace P0 := a_ (Kd.S_below (by (with_reducible repeat (first | apply Kd.S_alloc | apply Kd.S_drewN | apply Kd.S_drew)); exact P0.out) hb); replace HB := a_ (below_step hB_ hb); (try clear hb); (try clear hb2); (try clear hk); (try clear hi)))
   go_ret
   exact ⟨hV_, hC_⟩
end Go.Proofs.YtnhmmbgnaogokaaDoor.G
