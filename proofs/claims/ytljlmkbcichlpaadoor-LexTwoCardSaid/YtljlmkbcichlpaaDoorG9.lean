-- Laid by the session's own driver gp.py over the kit's printer. Not trusted: Lean checks it.
import Derived.Test.YtljlmkbcichlpaaDoorTHead
import Derived.Test.YtljlmkbcichlpaaDoorG0
import Derived.Test.YtljlmkbcichlpaaDoorG3
import Derived.Test.YtljlmkbcichlpaaDoorG5
import Derived.Test.YtljlmkbcichlpaaDoorG6
namespace Go.Proofs.YtljlmkbcichlpaaDoor.G
open Go.RowKit Go.Proofs.YtljlmkbcichlpaaDoorW.PrintWords Go.Proofs.YtljlmkbcichlpaaDoorW.PrintLast Go.Proofs.YtljlmkbcichlpaaDoorW.PrintMore
set_option maxHeartbeats 8000000
set_option maxRecDepth 100000
attribute [local go_sem] max2_int min2_int max_two min_two max_three min_three max_four min_four   -- for this text's walks alone
set_option linter.unusedVariables false
set_option linter.unusedSimpArgs false

def sleuthlaw4_LexTwo.j0 : Nat → List ByteArray → List ByteArray → List ByteArray → Int → Bool → Option (Bool)
 | 0, _, _, _, _, _ => none
 | k + 1, x5, x7, x9, x10, x44 => if x44 = true then ((sleuthlaw0_Num.f x10).bind fun t208 => (some (t208 == 400))) else ((some (([] : List ByteArray) : List ByteArray)).bind fun y209 => (if y209.length + x5.length < 8796093022208 then ((some (y209 ++ x5 : List ByteArray)).bind fun y212 => (if y212.length + x7.length < 8796093022208 then ((sleuthlaw0_SameTexts.f k x9 (y212 ++ x7)).bind fun t218 => (some t218)) else (none))) else (none)))
def sleuthlaw4_LexTwo.f (k : Nat) (a0 : ByteArray) (a1 : ByteArray) : Option (Bool) := (sleuthlaw4_awake.f k).bind fun t192 => (if t192 = true then ((lex_Words.f a0).bind fun bt193 => ((lex_Words.f a1).bind fun bt197 => (if a0.size + 1 ≤ 9223372036854775807 then (if (a0 ++ (⟨#[10]⟩ : ByteArray)).size + a1.size ≤ 9223372036854775807 then ((lex_Words.f ((a0 ++ (⟨#[10]⟩ : ByteArray)) ++ a1)).bind fun bt201 => ((sleuthlaw0_Num.f bt193.2).bind fun t205 => (if t205 = 0 then ((sleuthlaw0_Num.f bt197.2).bind fun t206 => (if t206 = 0 then ((sleuthlaw0_Num.f bt201.2).bind fun t207 => (sleuthlaw4_LexTwo.j0 k bt193.1 bt197.1 bt201.1 bt201.2 (t207 != 0))) else (sleuthlaw4_LexTwo.j0 k bt193.1 bt197.1 bt201.1 bt201.2 true))) else (sleuthlaw4_LexTwo.j0 k bt193.1 bt197.1 bt201.1 bt201.2 true)))) else (none)) else (none)))) else (none))
theorem sleuthlaw4_LexTwo.calls (k : Nat) (a0 : ByteArray) (a1 : ByteArray) (r : Bool) (w : World) (h : sleuthlaw4_LexTwo.f k a0 a1 = some r) (hG : GOK w) :
 Calls Tryd.prog 6 #[.string a0, .string a1] w fun e w' => e = .returned (.bool r) ∧ Below w.heap.size w w' := by
 have HB := a_ (Below.refl w.heap.size w)
 have H := h; unfold sleuthlaw4_LexTwo.f at H
 clear h
 replace H := Option.bind_eq_some_iff.mp H
 obtain ⟨t10, A30, H⟩ := H
 try dsimp only at H
 have A3 := a_ A30
 clear A30
 by_cases c4 : t10 = true
 case neg =>
  replace c4 := Bool.eq_false_iff.mpr c4
  subst c4
  rw [if_neg (show ¬ (false = true) by decide)] at H
  cases H
 subst c4
 rw [if_pos rfl] at H
 replace H := Option.bind_eq_some_iff.mp H
 obtain ⟨⟨t0, t4⟩, A50, H⟩ := H
 try dsimp only at H
 have A5 := a_ A50
 clear A50
 replace H := Option.bind_eq_some_iff.mp H
 obtain ⟨⟨t1, t8⟩, A60, H⟩ := H
 try dsimp only at H
 have A6 := a_ A60
 clear A60
 replace H := ifI_ H; obtain ⟨c7, H⟩ := H
 have c7b0 := eq_true c7
 have c7b1 : decide (a0.size + 1 ≤ 9223372036854775807) = true := decide_eq_true c7
 try have c7b2 : (9223372036854775807 < a0.size + 1) = False := eq_false (Nat.not_lt.2 c7)
 replace H := ifI_ H; obtain ⟨c8, H⟩ := H
 have c8b0 := eq_true c8
 have c8b1 : decide ((a0 ++ (⟨#[10]⟩ : ByteArray)).size + a1.size ≤ 9223372036854775807) = true := decide_eq_true c8
 try have c8b2 : (9223372036854775807 < (a0 ++ (⟨#[10]⟩ : ByteArray)).size + a1.size) = False := eq_false (Nat.not_lt.2 c8)
 try have c8b3 : (9223372036854775807 < a0.size + 1 + a1.size) = False := eq_false (Nat.not_lt.2 (by have h_ := c8; simp only [ByteArray.size_append, ByteArray.size_extract, Nat.min_self, show (⟨#[10]⟩ : ByteArray).size = 1 from rfl] at h_; omega))
 replace H := Option.bind_eq_some_iff.mp H
 obtain ⟨⟨t2, t7⟩, A90, H⟩ := H
 try dsimp only at H
 have A9 := a_ A90
 clear A90
 have HC10 := a_ H
 clear H
 go_enter Tryd.func6, Tryd.ntmps6
 go_upto_region 6 with (first | ((with_reducible refine gate_callee (f := 13) rfl ?_); refine goesL_ (some 12) rfl rfl Tryd.func13 (by kernel_rfl) rfl #[] rfl hL_ ?_; (with_reducible refine (sleuthlaw4_awake.calls k  true _ A3.out hG_).mono ?_); rintro e w1 ⟨rfl, hb⟩; refine ⟨_, rfl, ?_⟩; replace HB := a_ (below_step hB_ hb); (try clear hb); (try clear hb2); (try clear hk); (try clear hi)) | ((with_reducible refine gate_callee (f := 8) rfl ?_); refine goesL_ (some 16) rfl rfl Tryd.func8 (by kernel_rfl) rfl #[.string a0] rfl hL_ ?_; (with_reducible refine (lex_Words.calls a0 t0 t4 _ A5.out hG_).mono ?_); rintro e w2 ⟨v2, rfl, ho0, hb⟩; refine ⟨_, rfl, ?_⟩; have P0 := a_ (Kd.R_lower ho0 hS_); replace HB := a_ (below_step hB_ hb); (try clear hb); (try clear hb2); (try clear hk); (try clear hi); (try clear ho0)) | ((with_reducible refine gate_callee (f := 8) rfl ?_); refine goesL_ (some 21) rfl rfl Tryd.func8 (by kernel_rfl) rfl #[.string a1] rfl hL_ ?_; (with_reducible refine (lex_Words.calls a1 t1 t8 _ A6.out hG_).mono ?_); rintro e w3 ⟨v1, rfl, ho0, hb⟩; refine ⟨_, rfl, ?_⟩; have P1 := a_ (Kd.R_lower (Kd.R_new' ho0 (Kd.R_lt (hR_ P0.out))) hS_); replace P0 := a_ (Kd.R_elder' (hR_ P0.out) (Kd.R_base ho0) hb); replace HB := a_ (below_step hB_ hb); (try clear hb); (try clear hb2); (try clear hk); (try clear hi); (try clear ho0)) | ((with_reducible refine gate_callee (f := 8) rfl ?_); refine goesL_ (some 29) rfl rfl Tryd.func8 (by kernel_rfl) rfl #[.string ((a0 ++ (⟨#[10]⟩ : ByteArray)) ++ a1)] rfl hL_ ?_; (with_reducible refine (lex_Words.calls ((a0 ++ (⟨#[10]⟩ : ByteArray)) ++ a1) t2 t7 _ A9.out hG_).mono ?_); rintro e w4 ⟨v0, rfl, ho0, hb⟩; refine ⟨_, rfl, ?_⟩; have P2 := a_ (Kd.R_lower (Kd.R_new' (Kd.R_new' ho0 (Kd.R_lt (hR_ P0.out))) (Kd.R_lt (hR_ P1.out))) hS_); replace P0 := a_ (Kd.R_elder' (hR_ P0.out) (Kd.R_base ho0) hb); replace P1 := a_ (Kd.R_elder' (hR_ P1.out) (Kd.R_base ho0) hb); replace HB := a_ (below_step hB_ hb); (try clear hb); (try clear hb2); (try clear hk); (try clear hi); (try clear ho0)))
 (try simp only [Act.put, List.setIfInBounds_toArray, List.set_cons_zero, List.set_cons_succ])
 go_cut [44] (fun v3 wc => ∃ (kq : Nat) (x0 : Bool), v3 = .bool x0 ∧ Aside0 (sleuthlaw4_LexTwo.j0 kq t0 t1 t2 t7 x0 = some r) ∧ Aside0 (kq ≤ k) ∧ Aside0 (Kd.R Kd.string 9 wc w.heap.size (fun k_ => some k_ ≠ (v1 : Value).ownBlock ∧ some k_ ≠ (v0 : Value).ownBlock) v2 t0) ∧ Aside0 (Kd.R Kd.string 9 wc w.heap.size (fun k_ => some k_ ≠ (v2 : Value).ownBlock ∧ some k_ ≠ (v0 : Value).ownBlock) v1 t1) ∧ Aside0 (Kd.R Kd.string 9 wc w.heap.size (fun k_ => some k_ ≠ (v2 : Value).ownBlock ∧ some k_ ≠ (v1 : Value).ownBlock) v0 t2) ∧ Aside0 (Below w.heap.size w wc))
 case first =>
  have H := HC10.out
  clear HC10
  replace H := Option.bind_eq_some_iff.mp H
  obtain ⟨t3, A150, H⟩ := H
  try dsimp only at H
  have A15 := a_ A150
  clear A150
  by_cases c16 : t3 = 0
  case neg =>
   rw [if_neg c16] at H
   have c16b0 : (t3 == 0) = false := beq_eq_false_iff_ne.mpr c16
   have c16b1 : (t3 != 0) = true := bne_iff_ne.mpr c16
   (first | rw [c16b0] | (simp only [i64_w, i32_w]; rw [c16b0]) | skip)
   have H' := a_ H
   clear H
   go_wp2_with (first | ((with_reducible refine gate_callee (f := 11) rfl ?_); refine goesL_ _ rfl rfl Tryd.func11 (by kernel_rfl) rfl #[.int .i64 t4] rfl hL_ ?_; (with_reducible refine (sleuthlaw0_Num.calls t4 t3 _ A15.out).mono ?_); rintro e w' ⟨rfl, ⟨nd, rfl⟩⟩; refine ⟨_, rfl, ?_⟩))
   go_meet
   case rel => exact ⟨_, (true), hW_, H', ⟨by first | omega | exact Nat.le_refl _⟩, ⟨by (with_reducible repeat (first | apply Kd.R_alloc | apply Kd.R_drewN | apply Kd.R_drew)); exact Kd.R_mono P0.out (fun _ hk => ⟨hk.1.2, hk.2⟩)⟩, ⟨by (with_reducible repeat (first | apply Kd.R_alloc | apply Kd.R_drewN | apply Kd.R_drew)); exact Kd.R_mono P1.out (fun _ hk => ⟨hk.1.2, hk.2⟩)⟩, ⟨by (with_reducible repeat (first | apply Kd.R_alloc | apply Kd.R_drewN | apply Kd.R_drew)); exact Kd.R_mono P2.out (fun _ hk => ⟨hk.1.2, hk.2⟩)⟩, ⟨hC_⟩⟩
  rw [if_pos c16] at H
  have c16b0 : (t3 == 0) = true := beq_iff_eq.mpr c16
  have c16b1 : (t3 != 0) = false := bne_eq_false_iff_eq.mpr c16
  clear c16
  (first | rw [c16b0] | (simp only [i64_w, i32_w]; rw [c16b0]) | skip)
  replace H := Option.bind_eq_some_iff.mp H
  obtain ⟨t5, A170, H⟩ := H
  try dsimp only at H
  have A17 := a_ A170
  clear A170
  by_cases c18 : t5 = 0
  case neg =>
   rw [if_neg c18] at H
   have c18b0 : (t5 == 0) = false := beq_eq_false_iff_ne.mpr c18
   have c18b1 : (t5 != 0) = true := bne_iff_ne.mpr c18
   have H' := a_ H
   clear H
   go_wp2_with (first | ((with_reducible refine gate_callee (f := 11) rfl ?_); refine goesL_ _ rfl rfl Tryd.func11 (by kernel_rfl) rfl #[.int .i64 t4] rfl hL_ ?_; (with_reducible refine (sleuthlaw0_Num.calls t4 t3 _ A15.out).mono ?_); rintro e w' ⟨rfl, ⟨nd, rfl⟩⟩; refine ⟨_, rfl, ?_⟩) | (go_at_call 11; (with_reducible refine (sleuthlaw0_Num.calls t8 t5 _ A17.out).mono ?_); rintro e w' ⟨rfl, ⟨nd, rfl⟩⟩))
   go_meet
   case rel => exact ⟨_, (true), hW_, H', ⟨by first | omega | exact Nat.le_refl _⟩, ⟨by (with_reducible repeat (first | apply Kd.R_alloc | apply Kd.R_drewN | apply Kd.R_drew)); exact Kd.R_mono P0.out (fun _ hk => ⟨hk.1.2, hk.2⟩)⟩, ⟨by (with_reducible repeat (first | apply Kd.R_alloc | apply Kd.R_drewN | apply Kd.R_drew)); exact Kd.R_mono P1.out (fun _ hk => ⟨hk.1.2, hk.2⟩)⟩, ⟨by (with_reducible repeat (first | apply Kd.R_alloc | apply Kd.R_drewN | apply Kd.R_drew)); exact Kd.R_mono P2.out (fun _ hk => ⟨hk.1.2, hk.2⟩)⟩, ⟨hC_⟩⟩
  rw [if_pos c18] at H
  have c18b0 : (t5 == 0) = true := beq_iff_eq.mpr c18
  have c18b1 : (t5 != 0) = false := bne_eq_false_iff_eq.mpr c18
  clear c18
  replace H := Option.bind_eq_some_iff.mp H
  obtain ⟨t9, A190, H⟩ := H
  try dsimp only at H
  have A19 := a_ A190
  clear A190
  have H' := a_ H
  clear H
  go_wp2_with (first | ((with_reducible refine gate_callee (f := 11) rfl ?_); refine goesL_ _ rfl rfl Tryd.func11 (by kernel_rfl) rfl #[.int .i64 t4] rfl hL_ ?_; (with_reducible refine (sleuthlaw0_Num.calls t4 t3 _ A15.out).mono ?_); rintro e w' ⟨rfl, ⟨nd, rfl⟩⟩; refine ⟨_, rfl, ?_⟩) | (go_at_call 11; (with_reducible refine (sleuthlaw0_Num.calls t8 t5 _ A17.out).mono ?_); rintro e w' ⟨rfl, ⟨nd, rfl⟩⟩) | (go_at_call 11; (with_reducible refine (sleuthlaw0_Num.calls t7 t9 _ A19.out).mono ?_); rintro e w' ⟨rfl, ⟨nd, rfl⟩⟩))
  go_meet
  case rel => exact ⟨_, ((t9 != 0)), hW_, H', ⟨by first | omega | exact Nat.le_refl _⟩, ⟨by (with_reducible repeat (first | apply Kd.R_alloc | apply Kd.R_drewN | apply Kd.R_drew)); exact Kd.R_mono P0.out (fun _ hk => ⟨hk.1.2, hk.2⟩)⟩, ⟨by (with_reducible repeat (first | apply Kd.R_alloc | apply Kd.R_drewN | apply Kd.R_drew)); exact Kd.R_mono P1.out (fun _ hk => ⟨hk.1.2, hk.2⟩)⟩, ⟨by (with_reducible repeat (first | apply Kd.R_alloc | apply Kd.R_drewN | apply Kd.R_drew)); exact Kd.R_mono P2.out (fun _ hk => ⟨hk.1.2, hk.2⟩)⟩, ⟨hC_⟩⟩
 case rest =>
  clear HC10
  try clear c1
  try clear p2
  try clear c4
  try clear c6
  try clear c7
  try clear c7b0
  try clear c7b1
  try clear c7b2
  try clear c8
  try clear c8b0
  try clear c8b1
  try clear c8b2
  try clear c11
  try clear c13
  try clear c16
  try clear c16b0
  try clear c16b1
  try clear c18
  try clear c18b0
  try clear c18b1
  obtain ⟨kq, x0, rfl, HA, HJ9, O1, O2, O0, HB⟩ := hcut
  cases kq with
  | zero => exact absurd HA.out (by simp [sleuthlaw4_LexTwo.j0])
  | succ kj9 =>
   have H := HA.out
   clear HA
   simp only [sleuthlaw4_LexTwo.j0] at H
   by_cases c20 : x0 = true
   case pos =>
    subst c20
    rw [if_pos rfl] at H
    replace H := Option.bind_eq_some_iff.mp H
    obtain ⟨t11, A210, H⟩ := H
    try dsimp only at H
    have A21 := a_ A210
    clear A210
    obtain rfl := Option.some.inj H
    go_wp2_with (first | ((with_reducible refine gate_callee (f := 11) rfl ?_); refine goesL_ _ rfl rfl Tryd.func11 (by kernel_rfl) rfl #[.int .i64 t7] rfl hL_ ?_; (with_reducible refine (sleuthlaw0_Num.calls t7 t11 _ A21.out).mono ?_); rintro e w' ⟨rfl, ⟨nd, rfl⟩⟩; refine ⟨_, rfl, ?_⟩))
    go_ret
    exact ⟨hV_, hC_⟩
   replace c20 := Bool.eq_false_iff.mpr c20
   subst c20
   rw [if_neg (show ¬ (false = true) by decide)] at H
   obtain ⟨y1, i0⟩ : ∃ y_ : List ByteArray, y_ = (([] : List ByteArray)) := ⟨_, rfl⟩
   replace H : (if y1.length + t0.length < 8796093022208 then ((some (y1 ++ t0 : List ByteArray)).bind fun y0 => (if y0.length + t1.length < 8796093022208 then ((sleuthlaw0_SameTexts.f kj9 t2 (y0 ++ t1)).bind fun t6 => (some t6)) else (none))) else (none)) = some r := by first | (rw [i0]; with_reducible exact H) | (have H2_ := (Option.bind_some _ _).symm.trans H; rw [i0]; with_reducible exact H2_) | (have H2_ := (Option.bind_some _ _).symm.trans H; with_reducible exact H2_) | with_reducible exact H | (rw [i0]; exact H) | exact H
   have Y0 := a_ i0
   clear i0
   replace H := ifI_ H; obtain ⟨c22, H⟩ := H
   have LMc22 := a_ c22
   clear c22
   obtain ⟨y0, i1⟩ : ∃ y_ : List ByteArray, y_ = (y1 ++ t0) := ⟨_, rfl⟩
   replace H : (if y0.length + t1.length < 8796093022208 then ((sleuthlaw0_SameTexts.f kj9 t2 (y0 ++ t1)).bind fun t6 => (some t6)) else (none)) = some r := by first | (rw [i1]; with_reducible exact H) | (have H2_ := (Option.bind_some _ _).symm.trans H; rw [i1]; with_reducible exact H2_) | (have H2_ := (Option.bind_some _ _).symm.trans H; with_reducible exact H2_) | with_reducible exact H | (rw [i1]; exact H) | exact H
   have Y1 := a_ i1
   clear i1
   replace H := ifI_ H; obtain ⟨c23, H⟩ := H
   have LMc23 := a_ c23
   clear c23
   obtain ⟨y2, i2⟩ : ∃ y_ : List ByteArray, y_ = (y0 ++ t1) := ⟨_, rfl⟩
   replace H : ((sleuthlaw0_SameTexts.f kj9 t2 y2).bind fun t6 => (some t6)) = some r := by first | (rw [i2]; with_reducible exact H) | (have H2_ := (Option.bind_some _ _).symm.trans H; rw [i2]; with_reducible exact H2_) | (have H2_ := (Option.bind_some _ _).symm.trans H; with_reducible exact H2_) | with_reducible exact H | (rw [i2]; exact H) | exact H
   have Y2 := a_ i2
   clear i2
   replace H := Option.bind_eq_some_iff.mp H
   obtain ⟨t6, A240, H⟩ := H
   try dsimp only at H
   have A24 := a_ A240
   clear A240
   obtain rfl := Option.some.inj H
   go_wp2_with (first | ((with_reducible refine gate_dst (N := 48) rfl ?_); refine Kd.R_lit Kd.string _ 9 ?hg (N := 48) ?hd (xs := ([] : List ByteArray)) (inner := []) (ok := fun _ => True) (okp := fun _ => True) ?hr ?hp (fun _ hk => hk) trivial (Below.refl _ _) (Nat.le_refl _) (by simp) ?_; (case hd => rfl); (case hg => rfl); (case hr => first | (go_simp; done) | (go_simp; rfl)); (case hp => exact (Reps.none _ _)); intro v4 w5 ho26 hb hg_ hnew_; clear hg_ hnew_; (first | rw [← Y0.out] at ho26 | (simp only [Int.reduceToNat] at ho26; rw [← Y0.out] at ho26)); have P4 := a_ (Kd.R_lower (Kd.R_new' (Kd.R_new' (Kd.R_new' ho26 (Kd.R_lt (hR_ O1.out))) (Kd.R_lt (hR_ O2.out))) (Kd.R_lt (hR_ O0.out))) hS_); replace O1 := a_ (Kd.R_elder' (hR_ O1.out) (Kd.R_base ho26) hb); replace O2 := a_ (Kd.R_elder' (hR_ O2.out) (Kd.R_base ho26) hb); replace O0 := a_ (Kd.R_elder' (hR_ O0.out) (Kd.R_base ho26) hb); replace HB := a_ (below_step hB_ hb); clear hb ho26; obtain ⟨a2, o0, e0⟩ := Kd.R_slice O1.out; subst e0) | ((with_reducible refine gate_builtin (b := .append) (xs := #[.tmp 48, .tmp 49]) rfl ?_); at_builtin; refine Kd.R_append_rows Kd.string (w0 := w) w.heap.size rfl (.tmp 48) (.tmp 49) 22 9 (.string ⟨#[]⟩) 16 rfl Tryd.underlying22 info9 rfl (by decide) (by omega) v4 y1 t0 _ _ _ (fun k_ => some k_ ≠ (.slice a2 t0.length o0 : Value).ownBlock ∧ some k_ ≠ (v1 : Value).ownBlock ∧ some k_ ≠ (v0 : Value).ownBlock) (fun _ => False) rfl rfl ?aO ?aR (fun _ _ h => h) (fun _ h => h.elim) ?aF ?aB ?aS ?aL ?_; (case aR => exact cC_ (Kd.R_reads' O1.out).2.2); (case aB => exact hB_); (case aF => exact (fun k_ hk => ⟨Kd.fresh' (Kd.R_lt (hR_ O1.out)) k_ hk, Kd.fresh' (Kd.R_lt (hR_ O2.out)) k_ hk, Kd.fresh' (Kd.R_lt (hR_ O0.out)) k_ hk⟩)); (case aO => exact (by (with_reducible repeat (first | apply Kd.R_alloc | apply Kd.R_drewN | apply Kd.R_drew)); exact Kd.R_mono P4.out (fun _ hk => ⟨hk.1.1.2, ⟨hk.1.2, hk.2⟩⟩))); (case aS => exact hS_); (case aL => have := LMc22.out; omega); intro v5 w6 ho hb hg hat; rw [← Y1.out] at ho; replace O1 := a_ (Kd.R_after (ok := (fun k_ => some k_ ≠ (v1 : Value).ownBlock ∧ some k_ ≠ (v0 : Value).ownBlock)) (hR_ O1.out) hg hat); replace O2 := a_ (Kd.R_after (ok := (fun k_ => some k_ ≠ (.slice a2 t0.length o0 : Value).ownBlock ∧ some k_ ≠ (v0 : Value).ownBlock)) (hR_ O2.out) hg hat); replace O0 := a_ (Kd.R_after (ok := (fun k_ => some k_ ≠ (.slice a2 t0.length o0 : Value).ownBlock ∧ some k_ ≠ (v1 : Value).ownBlock)) (hR_ O0.out) hg hat); replace HB := a_ (hb); have P5 := a_ (ho); clear P4; clear ho hb hg hat; obtain ⟨a3, o1, e1⟩ := Kd.R_slice O2.out; subst e1) | ((with_reducible refine gate_builtin (b := .append) (xs := #[.tmp 51, .tmp 52]) rfl ?_); at_builtin; refine Kd.R_append_rows Kd.string (w0 := w) w.heap.size rfl (.tmp 51) (.tmp 52) 22 9 (.string ⟨#[]⟩) 16 rfl Tryd.underlying22 info9 rfl (by decide) (by omega) v5 y0 t1 _ _ _ (fun k_ => some k_ ≠ (.slice a2 t0.length o0 : Value).ownBlock ∧ some k_ ≠ (.slice a3 t1.length o1 : Value).ownBlock ∧ some k_ ≠ (v0 : Value).ownBlock) (fun _ => False) rfl rfl ?aO ?aR (fun _ _ h => h) (fun _ h => h.elim) ?aF ?aB ?aS ?aL ?_; (case aR => exact cC_ (Kd.R_reads' O2.out).2.2); (case aB => exact hB_); (case aF => exact (fun k_ hk => ⟨Kd.fresh' (Kd.R_lt (hR_ O1.out)) k_ hk, Kd.fresh' (Kd.R_lt (hR_ O2.out)) k_ hk, Kd.fresh' (Kd.R_lt (hR_ O0.out)) k_ hk⟩)); (case aO => exact (hR_ P5.out)); (case aS => exact hS_); (case aL => have := LMc23.out; omega); intro v6 w7 ho hb hg hat; rw [← Y2.out] at ho; replace O1 := a_ (Kd.R_after (ok := (fun k_ => some k_ ≠ (.slice a3 t1.length o1 : Value).ownBlock ∧ some k_ ≠ (v0 : Value).ownBlock)) (hR_ O1.out) hg hat); replace O2 := a_ (Kd.R_after (ok := (fun k_ => some k_ ≠ (.slice a2 t0.length o0 : Value).ownBlock ∧ some k_ ≠ (v0 : Value).ownBlock)) (hR_ O2.out) hg hat); replace O0 := a_ (Kd.R_after (ok := (fun k_ => some k_ ≠ (.slice a2 t0.length o0 : Value).ownBlock ∧ some k_ ≠ (.slice a3 t1.length o1 : Value).ownBlock)) (hR_ O0.out) hg hat); replace HB := a_ (hb); have P3 := a_ (ho); clear P5; clear ho hb hg hat; obtain ⟨a4, o2, e2⟩ := Kd.R_slice O0.out; subst e2; obtain ⟨a5, o3, e3⟩ := Kd.R_slice P3.out; subst e3) | ((with_reducible refine gate_callee (f := 10) rfl ?_); refine goesL_ _ rfl rfl Tryd.func10 (by kernel_rfl) rfl #[.slice a4 t2.length o2, .slice a5 y2.length o3] rfl hL_ ?_; (with_reducible refine (sleuthlaw0_SameTexts.calls kj9 _ _ t2 _ _ y2 t6 _ ?s1 ?s2 ?s3 ?s4 A24.out).mono ?_); (case s1 => exact cC_ (Kd.R_reads' O0.out).2.2); (case s2 => exact (Kd.R_reads' O0.out).2.1); (case s3 => exact cC_ (Kd.R_reads' P3.out).2.2); (case s4 => exact (Kd.R_reads' P3.out).2.1); rintro e w' ⟨rfl, ⟨nd, rfl⟩⟩; refine ⟨_, rfl, ?_⟩))
   go_ret
   exact ⟨hV_, hC_⟩
end Go.Proofs.YtljlmkbcichlpaaDoor.G
