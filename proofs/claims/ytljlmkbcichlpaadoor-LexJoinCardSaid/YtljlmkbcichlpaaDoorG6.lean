-- Laid by the session's own driver gp.py over the kit's printer. Not trusted: Lean checks it.
import Derived.Test.YtljlmkbcichlpaaDoorTHead
import Derived.Test.YtljlmkbcichlpaaDoorG0
import Derived.Test.YtljlmkbcichlpaaDoorG3
import Derived.Test.YtljlmkbcichlpaaDoorG4
import Derived.Test.YtljlmkbcichlpaaDoorG5
namespace Go.Proofs.YtljlmkbcichlpaaDoor.G
open Go.RowKit Go.Proofs.YtljlmkbcichlpaaDoorW.PrintWords Go.Proofs.YtljlmkbcichlpaaDoorW.PrintLast Go.Proofs.YtljlmkbcichlpaaDoorW.PrintMore
set_option maxHeartbeats 8000000
set_option maxRecDepth 100000
attribute [local go_sem] max2_int min2_int max_two min_two max_three min_three max_four min_four   -- for this text's walks alone
set_option linter.unusedVariables false
set_option linter.unusedSimpArgs false

def sleuthlaw4_awake.f (k : Nat)  : Option (Bool) := (lex_Words.f (⟨#[40, 100, 101, 102, 32, 48, 32, 36, 49, 41, 35, 32, 110, 111, 10, 32, 120, 35]⟩ : ByteArray)).bind fun bt111 => ((lex_Words.f (⟨#[9]⟩ : ByteArray)).bind fun bt115 => ((sleuthlaw0_SameTexts.f k bt111.1 (([(⟨#[40]⟩ : ByteArray), (⟨#[100, 101, 102]⟩ : ByteArray), (⟨#[48]⟩ : ByteArray), (⟨#[36, 49]⟩ : ByteArray), (⟨#[41]⟩ : ByteArray), (⟨#[120]⟩ : ByteArray)] : List ByteArray))).bind fun t122 => (if t122 = true then ((sleuthlaw0_Num.f bt111.2).bind fun t123 => (if t123 = 0 then ((sleuthlaw0_Num.f bt115.2).bind fun t124 => (some (t124 == 400))) else (none))) else (none))))
theorem sleuthlaw4_awake.calls (k : Nat)  (r : Bool) (w : World) (h : sleuthlaw4_awake.f k  = some r) (hG : GOK w) :
 Calls Tryd.prog 13 #[] w fun e w' => e = .returned (.bool r) ∧ Below w.heap.size w w' := by
 have HB := a_ (Below.refl w.heap.size w)
 have H := h; unfold sleuthlaw4_awake.f at H
 clear h
 replace H := Option.bind_eq_some_iff.mp H
 obtain ⟨⟨t1, t2⟩, A10, H⟩ := H
 try dsimp only at H
 have A1 := a_ A10
 clear A10
 replace H := Option.bind_eq_some_iff.mp H
 obtain ⟨⟨t6, t3⟩, A20, H⟩ := H
 try dsimp only at H
 have A2 := a_ A20
 clear A20
 obtain ⟨y0, i0⟩ : ∃ y_ : List ByteArray, y_ = (([(⟨#[40]⟩ : ByteArray), (⟨#[100, 101, 102]⟩ : ByteArray), (⟨#[48]⟩ : ByteArray), (⟨#[36, 49]⟩ : ByteArray), (⟨#[41]⟩ : ByteArray), (⟨#[120]⟩ : ByteArray)] : List ByteArray)) := ⟨_, rfl⟩
 replace H : ((sleuthlaw0_SameTexts.f k t1 y0).bind fun t4 => (if t4 = true then ((sleuthlaw0_Num.f t2).bind fun t0 => (if t0 = 0 then ((sleuthlaw0_Num.f t3).bind fun t5 => (some (t5 == 400))) else (none))) else (none))) = some r := by first | (rw [i0]; with_reducible exact H) | (have H2_ := (Option.bind_some _ _).symm.trans H; rw [i0]; with_reducible exact H2_) | (have H2_ := (Option.bind_some _ _).symm.trans H; with_reducible exact H2_) | with_reducible exact H | (rw [i0]; exact H) | exact H
 have Y0 := a_ i0
 clear i0
 replace H := Option.bind_eq_some_iff.mp H
 obtain ⟨t4, A30, H⟩ := H
 try dsimp only at H
 have A3 := a_ A30
 clear A30
 by_cases c4 : t4 = true
 case neg =>
  replace c4 := Bool.eq_false_iff.mpr c4
  subst c4
  rw [if_neg (show ¬ (false = true) by decide)] at H
  cases H
 subst c4
 rw [if_pos rfl] at H
 replace H := Option.bind_eq_some_iff.mp H
 obtain ⟨t0, A50, H⟩ := H
 try dsimp only at H
 have A5 := a_ A50
 clear A50
 by_cases c6 : t0 = 0
 case neg =>
  rw [if_neg c6] at H
  have c6b0 : (t0 == 0) = false := beq_eq_false_iff_ne.mpr c6
  have c6b1 : (t0 != 0) = true := bne_iff_ne.mpr c6
  cases H
 rw [if_pos c6] at H
 have c6b0 : (t0 == 0) = true := beq_iff_eq.mpr c6
 have c6b1 : (t0 != 0) = false := bne_eq_false_iff_eq.mpr c6
 clear c6
 replace H := Option.bind_eq_some_iff.mp H
 obtain ⟨t5, A70, H⟩ := H
 try dsimp only at H
 have A7 := a_ A70
 clear A70
 obtain rfl := Option.some.inj H
 go_enter Tryd.func13, Tryd.ntmps13
 go_wp2_with (first | ((with_reducible refine gate_callee (f := 8) rfl ?_); refine goesL_ (some 6) rfl rfl Tryd.func8 (by kernel_rfl) rfl #[.string (⟨#[40, 100, 101, 102, 32, 48, 32, 36, 49, 41, 35, 32, 110, 111, 10, 32, 120, 35]⟩ : ByteArray)] rfl hL_ ?_; (with_reducible refine (lex_Words.calls (⟨#[40, 100, 101, 102, 32, 48, 32, 36, 49, 41, 35, 32, 110, 111, 10, 32, 120, 35]⟩ : ByteArray) t1 t2 _ A1.out hG_).mono ?_); rintro e w8 ⟨v0, rfl, ho0, hb⟩; refine ⟨_, rfl, ?_⟩; have P0 := a_ (Kd.R_lower ho0 hS_); replace HB := a_ (below_step hB_ hb); (try clear hb); (try clear hb2); (try clear hk); (try clear hi); (try clear ho0)) | ((with_reducible refine gate_callee (f := 8) rfl ?_); refine goesL_ (some 10) rfl rfl Tryd.func8 (by kernel_rfl) rfl #[.string (⟨#[9]⟩ : ByteArray)] rfl hL_ ?_; (with_reducible refine (lex_Words.calls (⟨#[9]⟩ : ByteArray) t6 t3 _ A2.out hG_).mono ?_); rintro e w9 ⟨v1, rfl, ho0, hb⟩; refine ⟨_, rfl, ?_⟩; have P1 := a_ (Kd.R_lower (Kd.R_new' ho0 (Kd.R_lt (hR_ P0.out))) hS_); replace P0 := a_ (Kd.R_elder' (hR_ P0.out) (Kd.R_base ho0) hb); replace HB := a_ (below_step hB_ hb); (try clear hb); (try clear hb2); (try clear hk); (try clear hi); (try clear ho0)) | ((with_reducible refine gate_dst (N := 14) rfl ?_); refine Kd.R_lit Kd.string _ 9 ?hg (N := 14) ?hd (xs := ([(⟨#[40]⟩ : ByteArray), (⟨#[100, 101, 102]⟩ : ByteArray), (⟨#[48]⟩ : ByteArray), (⟨#[36, 49]⟩ : ByteArray), (⟨#[41]⟩ : ByteArray), (⟨#[120]⟩ : ByteArray)] : List ByteArray)) (inner := [.string (⟨#[40]⟩ : ByteArray), .string (⟨#[100, 101, 102]⟩ : ByteArray), .string (⟨#[48]⟩ : ByteArray), .string (⟨#[36, 49]⟩ : ByteArray), .string (⟨#[41]⟩ : ByteArray), .string (⟨#[120]⟩ : ByteArray)]) (ok := fun _ => True) (okp := fun _ => True) ?hr ?hp (fun _ hk => hk) trivial (Below.refl _ _) (Nat.le_refl _) (by simp) ?_; (case hd => rfl); (case hg => rfl); (case hr => first | (go_simp; done) | (go_simp; rfl)); (case hp => exact (Reps.one (show Kd.M Kd.string _ _ _ (⟨#[40]⟩ : ByteArray) [.string (⟨#[40]⟩ : ByteArray)] from rfl) (Reps.one (show Kd.M Kd.string _ _ _ (⟨#[100, 101, 102]⟩ : ByteArray) [.string (⟨#[100, 101, 102]⟩ : ByteArray)] from rfl) (Reps.one (show Kd.M Kd.string _ _ _ (⟨#[48]⟩ : ByteArray) [.string (⟨#[48]⟩ : ByteArray)] from rfl) (Reps.one (show Kd.M Kd.string _ _ _ (⟨#[36, 49]⟩ : ByteArray) [.string (⟨#[36, 49]⟩ : ByteArray)] from rfl) (Reps.one (show Kd.M Kd.string _ _ _ (⟨#[41]⟩ : ByteArray) [.string (⟨#[41]⟩ : ByteArray)] from rfl) (Reps.one (show Kd.M Kd.string _ _ _ (⟨#[120]⟩ : ByteArray) [.string (⟨#[120]⟩ : ByteArray)] from rfl) (Reps.none _ _)))))))); intro v2 w0 ho11 hb hg_ hnew_; clear hg_ hnew_; (first | rw [← Y0.out] at ho11 | (simp only [Int.reduceToNat] at ho11; rw [← Y0.out] at ho11)); have P2 := a_ (Kd.R_lower (Kd.R_new' (Kd.R_new' ho11 (Kd.R_lt (hR_ P0.out))) (Kd.R_lt (hR_ P1.out))) hS_); replace P0 := a_ (Kd.R_elder' (hR_ P0.out) (Kd.R_base ho11) hb); replace P1 := a_ (Kd.R_elder' (hR_ P1.out) (Kd.R_base ho11) hb); replace HB := a_ (below_step hB_ hb); clear hb ho11; obtain ⟨a0, o0, e0⟩ := Kd.R_slice P0.out; subst e0; obtain ⟨a1, o1, e1⟩ := Kd.R_slice P2.out; subst e1) | ((with_reducible refine gate_callee (f := 10) rfl ?_); refine goesL_ _ rfl rfl Tryd.func10 (by kernel_rfl) rfl #[.slice a0 t1.length o0, .slice a1 y0.length o1] rfl hL_ ?_; (with_reducible refine (sleuthlaw0_SameTexts.calls k _ _ t1 _ _ y0 true _ ?s1 ?s2 ?s3 ?s4 A3.out).mono ?_); (case s1 => exact cC_ (Kd.R_reads' P0.out).2.2); (case s2 => exact (Kd.R_reads' P0.out).2.1); (case s3 => exact cC_ (Kd.R_reads' P2.out).2.2); (case s4 => exact (Kd.R_reads' P2.out).2.1); rintro e w' ⟨rfl, ⟨nd, rfl⟩⟩; refine ⟨_, rfl, ?_⟩) | (go_at_call 11; (with_reducible refine (sleuthlaw0_Num.calls t2 t0 _ A5.out).mono ?_); rintro e w' ⟨rfl, ⟨nd, rfl⟩⟩) | (go_at_call 11; (with_reducible refine (sleuthlaw0_Num.calls t3 t5 _ A7.out).mono ?_); rintro e w' ⟨rfl, ⟨nd, rfl⟩⟩))
 go_ret
 exact ⟨hV_, hC_⟩
def sleuthlaw4_Lexes.j0 : Nat → List ByteArray → Bool → Option (Bool)
 | 0, _, _ => none
 | k + 1, x3, x26 => if x26 = true then (none) else ((sleuthlaw0_SpoilTexts.f k x3).bind fun t135 => ((sleuthlaw4_awake.f k).bind fun t136 => (some t136)))
def sleuthlaw4_Lexes.f (k : Nat) (a0 : ByteArray) : Option (Bool) := (lex_Words.f a0).bind fun bt125 => ((sleuthref1_Words.f k a0).bind fun bt129 => ((sleuthlaw0_SameTexts.f k bt125.1 bt129.1).bind fun t133 => (if t133 = true then ((sleuthlaw0_Num.f bt125.2).bind fun t134 => (sleuthlaw4_Lexes.j0 k bt125.1 (t134 != bt129.2))) else (sleuthlaw4_Lexes.j0 k bt125.1 true))))
theorem sleuthlaw4_Lexes.calls (k : Nat) (a0 : ByteArray) (r : Bool) (w : World) (h : sleuthlaw4_Lexes.f k a0 = some r) (hG : GOK w) :
 Calls Tryd.prog 3 #[.string a0] w fun e w' => e = .returned (.bool r) ∧ Below w.heap.size w w' := by
 have HB := a_ (Below.refl w.heap.size w)
 have H := h; unfold sleuthlaw4_Lexes.f at H
 clear h
 replace H := Option.bind_eq_some_iff.mp H
 obtain ⟨⟨t0, t2⟩, A20, H⟩ := H
 try dsimp only at H
 have A2 := a_ A20
 clear A20
 replace H := Option.bind_eq_some_iff.mp H
 obtain ⟨⟨t1, t3⟩, A30, H⟩ := H
 try dsimp only at H
 have A3 := a_ A30
 clear A30
 have HC4 := a_ H
 clear H
 go_enter Tryd.func3, Tryd.ntmps3
 go_upto_region 3 with (first | ((with_reducible refine gate_callee (f := 8) rfl ?_); refine goesL_ (some 9) rfl rfl Tryd.func8 (by kernel_rfl) rfl #[.string a0] rfl hL_ ?_; (with_reducible refine (lex_Words.calls a0 t0 t2 _ A2.out hG_).mono ?_); rintro e w5 ⟨v0, rfl, ho0, hb⟩; refine ⟨_, rfl, ?_⟩; have P0 := a_ (Kd.R_lower ho0 hS_); replace HB := a_ (below_step hB_ hb); (try clear hb); (try clear hb2); (try clear hk); (try clear hi); (try clear ho0)) | ((with_reducible refine gate_callee (f := 9) rfl ?_); refine goesL_ (some 14) rfl rfl Tryd.func9 (by kernel_rfl) rfl #[.string a0] rfl hL_ ?_; (with_reducible refine (sleuthref1_Words.calls k a0 t1 t3 _ A3.out).mono ?_); rintro e w6 ⟨v2, rfl, ho0, hb⟩; refine ⟨_, rfl, ?_⟩; have P1 := a_ (Kd.R_lower (Kd.R_new' ho0 (Kd.R_lt (hR_ P0.out))) hS_); replace P0 := a_ (Kd.R_elder' (hR_ P0.out) (Kd.R_base ho0) hb); replace HB := a_ (below_step hB_ hb); (try clear hb); (try clear hb2); (try clear hk); (try clear hi); (try clear ho0)))
 (try simp only [Act.put, List.setIfInBounds_toArray, List.set_cons_zero, List.set_cons_succ])
 go_cut [26] (fun v1 wc => ∃ (kq : Nat) (x0 : Bool), v1 = .bool x0 ∧ Aside0 (sleuthlaw4_Lexes.j0 kq t0 x0 = some r) ∧ Aside0 (kq ≤ k) ∧ Aside0 (Kd.R Kd.string 9 wc w.heap.size (fun _ => True) v0 t0) ∧ Aside0 (Below w.heap.size w wc))
 case first =>
  have H := HC4.out
  clear HC4
  replace H := Option.bind_eq_some_iff.mp H
  obtain ⟨t5, A70, H⟩ := H
  try dsimp only at H
  have A7 := a_ A70
  clear A70
  by_cases c8 : t5 = true
  case neg =>
   replace c8 := Bool.eq_false_iff.mpr c8
   subst c8
   rw [if_neg (show ¬ (false = true) by decide)] at H
   have H' := a_ H
   clear H
   obtain ⟨a2, o1, e0⟩ := Kd.R_slice P0.out
   subst e0
   obtain ⟨a3, o2, e1⟩ := Kd.R_slice P1.out
   subst e1
   go_wp2_with (first | ((with_reducible refine gate_callee (f := 10) rfl ?_); refine goesL_ _ rfl rfl Tryd.func10 (by kernel_rfl) rfl #[.slice a2 t0.length o1, .slice a3 t1.length o2] rfl hL_ ?_; (with_reducible refine (sleuthlaw0_SameTexts.calls k _ _ t0 _ _ t1 false _ ?s1 ?s2 ?s3 ?s4 A7.out).mono ?_); (case s1 => exact cC_ (Kd.R_reads' P0.out).2.2); (case s2 => exact (Kd.R_reads' P0.out).2.1); (case s3 => exact cC_ (Kd.R_reads' P1.out).2.2); (case s4 => exact (Kd.R_reads' P1.out).2.1); rintro e w' ⟨rfl, ⟨nd, rfl⟩⟩; refine ⟨_, rfl, ?_⟩))
   go_meet
   case rel => exact ⟨_, (true), hW_, H', ⟨by first | omega | exact Nat.le_refl _⟩, ⟨hR_ (Kd.R_mono P0.out (fun _ hk => trivial))⟩, ⟨hC_⟩⟩
  subst c8
  rw [if_pos rfl] at H
  replace H := Option.bind_eq_some_iff.mp H
  obtain ⟨t4, A90, H⟩ := H
  try dsimp only at H
  have A9 := a_ A90
  clear A90
  have H' := a_ H
  clear H
  obtain ⟨a4, o3, e2⟩ := Kd.R_slice P0.out
  subst e2
  obtain ⟨a5, o4, e3⟩ := Kd.R_slice P1.out
  subst e3
  go_wp2_with (first | ((with_reducible refine gate_callee (f := 10) rfl ?_); refine goesL_ _ rfl rfl Tryd.func10 (by kernel_rfl) rfl #[.slice a4 t0.length o3, .slice a5 t1.length o4] rfl hL_ ?_; (with_reducible refine (sleuthlaw0_SameTexts.calls k _ _ t0 _ _ t1 true _ ?s1 ?s2 ?s3 ?s4 A7.out).mono ?_); (case s1 => exact cC_ (Kd.R_reads' P0.out).2.2); (case s2 => exact (Kd.R_reads' P0.out).2.1); (case s3 => exact cC_ (Kd.R_reads' P1.out).2.2); (case s4 => exact (Kd.R_reads' P1.out).2.1); rintro e w' ⟨rfl, ⟨nd, rfl⟩⟩; refine ⟨_, rfl, ?_⟩) | (go_at_call 11; (with_reducible refine (sleuthlaw0_Num.calls t2 t4 _ A9.out).mono ?_); rintro e w' ⟨rfl, ⟨nd, rfl⟩⟩))
  go_meet
  case rel => exact ⟨_, ((t4 != t3)), hW_, H', ⟨by first | omega | exact Nat.le_refl _⟩, ⟨hR_ (Kd.R_mono P0.out (fun _ hk => trivial))⟩, ⟨hC_⟩⟩
 case rest =>
  clear HC4
  try clear c1
  try clear p2
  try clear c3
  try clear c8
  try clear c9
  try clear c10
  obtain ⟨kq, x0, rfl, HA, HJ3, O0, HB⟩ := hcut
  cases kq with
  | zero => exact absurd HA.out (by simp [sleuthlaw4_Lexes.j0])
  | succ kj3 =>
   have H := HA.out
   clear HA
   simp only [sleuthlaw4_Lexes.j0] at H
   by_cases c14 : x0 = true
   case pos =>
    subst c14
    rw [if_pos rfl] at H
    cases H
   replace c14 := Bool.eq_false_iff.mpr c14
   subst c14
   rw [if_neg (show ¬ (false = true) by decide)] at H
   replace H := Option.bind_eq_some_iff.mp H
   obtain ⟨t6, A150, H⟩ := H
   try dsimp only at H
   have A15 := a_ A150
   clear A150
   replace H := Option.bind_eq_some_iff.mp H
   obtain ⟨t7, A160, H⟩ := H
   try dsimp only at H
   have A16 := a_ A160
   clear A160
   obtain rfl := Option.some.inj H
   obtain ⟨a1, o0, e4⟩ := Kd.R_slice O0.out
   subst e4
   go_wp2_with (first | ((with_reducible refine gate_callee (f := 12) rfl ?_); refine goesL_ (some 28) rfl rfl Tryd.func12 (by kernel_rfl) rfl #[.slice a1 t0.length o0] rfl hL_ ?_; (with_reducible refine (sleuthlaw0_SpoilTexts.calls kj3 (fun k_ => some k_ = (.slice a1 t0.length o0 : Value).ownBlock) (.slice a1 t0.length o0) t0 t6 w _ ?s1 ?s2 A15.out).mono ?_); (case s1 => repeat (first | (with_reducible first | exact HB.out | apply below_alloc | apply pw_below_drewN | apply below_drew1) | exact HB.out)); (case s2 => exact Kd.R_tight rfl O0.out); rintro e w0 ⟨rfl, i0, hb, hkp⟩; refine ⟨_, rfl, ?_⟩; replace O0 := a_ (Kd.R_reok rfl i0 (fun k_ e_ => O0.out.1 k_ e_)); replace HB := a_ (hb); (try clear hb); (try clear hkp); (try clear i0)) | ((with_reducible refine gate_callee (f := 13) rfl ?_); refine goesL_ (some 29) rfl rfl Tryd.func13 (by kernel_rfl) rfl #[] rfl hL_ ?_; (with_reducible refine (sleuthlaw4_awake.calls kj3  t7 _ A16.out hG_).mono ?_); rintro e w1 ⟨rfl, hb⟩; refine ⟨_, rfl, ?_⟩; replace O0 := a_ (Kd.R_below (hR_ O0.out) hb); replace HB := a_ (below_step hB_ hb); (try clear hb); (try clear hb2); (try clear hk); (try clear hi)))
   go_ret
   exact ⟨hV_, hC_⟩

end Go.Proofs.YtljlmkbcichlpaaDoor.G
