-- Laid by the session's own driver gp.py over the kit's printer. Not trusted: Lean checks it.
import Derived.Test.YtljlmkbcichlpaaDoorTHead
import Derived.Test.YtljlmkbcichlpaaDoorG0
import Derived.Test.YtljlmkbcichlpaaDoorG3
import Derived.Test.YtljlmkbcichlpaaDoorG5
import Derived.Test.YtljlmkbcichlpaaDoorG6
namespace Go.Proofs.YtljlmkbcichlpaaDoor.G
open Go.RowKit Go.Proofs.YtljlmkbcichlpaaDoorW.PrintWords Go.Proofs.YtljlmkbcichlpaaDoorW.PrintLast Go.Proofs.YtljlmkbcichlpaaDoorW.PrintMore
set_option maxHeartbeats 8000000
set_option maxRecDepth 100000
attribute [local go_sem] max2_int min2_int max_two min_two max_three min_three max_four min_four   -- for this text's walks alone
set_option linter.unusedVariables false
set_option linter.unusedSimpArgs false

def sleuthlaw4_LexJoin.l0 : Nat → List Int → List ByteArray → List ByteArray → ByteArray → List ByteArray → Int → Option (Bool)
 | 0, _, _, _, _, _, _ => none
 | k + 1, x0, x3, x4, x5, x6, x7 => if x7 < (x0.length : Int) then (if x7 < 40 then (if 0 ≤ x7 then (if 0 ≤ (Go.bits .and .i64 (rd x0 x7) 7) then (if (Go.bits .and .i64 (rd x0 x7) 7) < (x3.length : Int) then (if x5.size + (rdOf ByteArray.empty x3 (Go.bits .and .i64 (rd x0 x7) 7)).size ≤ 9223372036854775807 then (if 0 ≤ (wrap64 (Int.tmod ((IntKind.u64.wrap (rd x0 x7)) / 8) 6)) then (if (wrap64 (Int.tmod ((IntKind.u64.wrap (rd x0 x7)) / 8) 6)) < (x4.length : Int) then (if (x5 ++ (rdOf ByteArray.empty x3 (Go.bits .and .i64 (rd x0 x7) 7))).size + (rdOf ByteArray.empty x4 (wrap64 (Int.tmod ((IntKind.u64.wrap (rd x0 x7)) / 8) 6))).size ≤ 9223372036854775807 then (if x6.length < 8796093022208 then (sleuthlaw4_LexJoin.l0 k x0 x3 x4 ((x5 ++ (rdOf ByteArray.empty x3 (Go.bits .and .i64 (rd x0 x7) 7))) ++ (rdOf ByteArray.empty x4 (wrap64 (Int.tmod ((IntKind.u64.wrap (rd x0 x7)) / 8) 6)))) (x6 ++ [rdOf ByteArray.empty x3 (Go.bits .and .i64 (rd x0 x7) 7)]) (wrap64 (x7 + 1))) else (none)) else (none)) else (none)) else (none)) else (none)) else (none)) else (none)) else (none)) else ((lex_Words.f x5).bind fun bt180 => ((sleuthlaw0_Num.f bt180.2).bind fun t184 => (if t184 = 0 then ((sleuthlaw0_SameTexts.f k bt180.1 x6).bind fun t185 => (some t185)) else (none))))) else ((lex_Words.f x5).bind fun bt186 => ((sleuthlaw0_Num.f bt186.2).bind fun t190 => (if t190 = 0 then ((sleuthlaw0_SameTexts.f k bt186.1 x6).bind fun t191 => (some t191)) else (none))))
def sleuthlaw4_LexJoin.f (k : Nat) (l0 : List Int) : Option (Bool) := (sleuthlaw4_awake.f k).bind fun t166 => (if t166 = true then (sleuthlaw4_LexJoin.l0 k l0 (([(⟨#[40]⟩ : ByteArray), (⟨#[41]⟩ : ByteArray), (⟨#[100, 101, 102]⟩ : ByteArray), (⟨#[102, 48]⟩ : ByteArray), (⟨#[36, 49]⟩ : ByteArray), (⟨#[45, 55]⟩ : ByteArray), (⟨#[64, 51]⟩ : ByteArray), (⟨#[43]⟩ : ByteArray)] : List ByteArray)) (([(⟨#[32]⟩ : ByteArray), (⟨#[10]⟩ : ByteArray), (⟨#[32, 32, 10, 32]⟩ : ByteArray), (⟨#[32, 35, 32, 110, 111, 32, 40, 32, 41, 10]⟩ : ByteArray), (⟨#[35, 10]⟩ : ByteArray), (⟨#[10, 35, 120, 35, 121, 10, 10]⟩ : ByteArray)] : List ByteArray)) (⟨#[10, 32]⟩ : ByteArray) ([] : List ByteArray) 0) else (none))
theorem sleuthlaw4_LexJoin.calls (k : Nat) (A0 : Option Addr) (c0 : Nat) (l0 : List Int) (r : Bool) (w : World) (hr0 : Kd.C (Kd.int .i64) w A0 l0.length l0) (hc0 : l0.length ≤ c0) (h : sleuthlaw4_LexJoin.f k l0 = some r) (hG : GOK w) :
 Calls Tryd.prog 5 #[.slice A0 l0.length c0] w fun e w' => e = .returned (.bool r) ∧ Below w.heap.size w w' := by
 have HR0 := a_ hr0
 have HC0 := a_ hc0
 clear hr0 hc0
 have HB := a_ (Below.refl w.heap.size w)
 have H := h; unfold sleuthlaw4_LexJoin.f at H
 clear h
 replace H := Option.bind_eq_some_iff.mp H
 obtain ⟨t6, A20, H⟩ := H
 try dsimp only at H
 have A2 := a_ A20
 clear A20
 by_cases c3 : t6 = true
 case neg =>
  replace c3 := Bool.eq_false_iff.mpr c3
  subst c3
  rw [if_neg (show ¬ (false = true) by decide)] at H
  cases H
 subst c3
 rw [if_pos rfl] at H
 obtain ⟨y0, i0⟩ : ∃ y_ : List ByteArray, y_ = (([(⟨#[40]⟩ : ByteArray), (⟨#[41]⟩ : ByteArray), (⟨#[100, 101, 102]⟩ : ByteArray), (⟨#[102, 48]⟩ : ByteArray), (⟨#[36, 49]⟩ : ByteArray), (⟨#[45, 55]⟩ : ByteArray), (⟨#[64, 51]⟩ : ByteArray), (⟨#[43]⟩ : ByteArray)] : List ByteArray)) := ⟨_, rfl⟩
 replace H : (sleuthlaw4_LexJoin.l0 k l0 y0 (([(⟨#[32]⟩ : ByteArray), (⟨#[10]⟩ : ByteArray), (⟨#[32, 32, 10, 32]⟩ : ByteArray), (⟨#[32, 35, 32, 110, 111, 32, 40, 32, 41, 10]⟩ : ByteArray), (⟨#[35, 10]⟩ : ByteArray), (⟨#[10, 35, 120, 35, 121, 10, 10]⟩ : ByteArray)] : List ByteArray)) (⟨#[10, 32]⟩ : ByteArray) ([] : List ByteArray) 0) = some r := by first | (rw [i0]; with_reducible exact H) | (have H2_ := (Option.bind_some _ _).symm.trans H; rw [i0]; with_reducible exact H2_) | (have H2_ := (Option.bind_some _ _).symm.trans H; with_reducible exact H2_) | with_reducible exact H | (rw [i0]; exact H) | exact H
 have Y0 := a_ i0
 clear i0
 obtain ⟨y1, i1⟩ : ∃ y_ : List ByteArray, y_ = (([(⟨#[32]⟩ : ByteArray), (⟨#[10]⟩ : ByteArray), (⟨#[32, 32, 10, 32]⟩ : ByteArray), (⟨#[32, 35, 32, 110, 111, 32, 40, 32, 41, 10]⟩ : ByteArray), (⟨#[35, 10]⟩ : ByteArray), (⟨#[10, 35, 120, 35, 121, 10, 10]⟩ : ByteArray)] : List ByteArray)) := ⟨_, rfl⟩
 replace H : (sleuthlaw4_LexJoin.l0 k l0 y0 y1 (⟨#[10, 32]⟩ : ByteArray) ([] : List ByteArray) 0) = some r := by first | (rw [i1]; with_reducible exact H) | (have H2_ := (Option.bind_some _ _).symm.trans H; rw [i1]; with_reducible exact H2_) | (have H2_ := (Option.bind_some _ _).symm.trans H; with_reducible exact H2_) | with_reducible exact H | (rw [i1]; exact H) | exact H
 have Y1 := a_ i1
 clear i1
 have H' := a_ H
 clear H
 go_enter Tryd.func5, Tryd.ntmps5
 go_wp2_with (first | ((with_reducible refine gate_callee (f := 13) rfl ?_); refine goesL_ (some 11) rfl rfl Tryd.func13 (by kernel_rfl) rfl #[] rfl hL_ ?_; (with_reducible refine (sleuthlaw4_awake.calls k  true _ A2.out hG_).mono ?_); rintro e w4 ⟨rfl, hb⟩; refine ⟨_, rfl, ?_⟩; replace HB := a_ (below_step hB_ hb); (try clear hb); (try clear hb2); (try clear hk); (try clear hi)) | ((with_reducible refine gate_dst (N := 13) rfl ?_); refine Kd.R_lit Kd.string _ 9 ?hg (N := 13) ?hd (xs := ([(⟨#[40]⟩ : ByteArray), (⟨#[41]⟩ : ByteArray), (⟨#[100, 101, 102]⟩ : ByteArray), (⟨#[102, 48]⟩ : ByteArray), (⟨#[36, 49]⟩ : ByteArray), (⟨#[45, 55]⟩ : ByteArray), (⟨#[64, 51]⟩ : ByteArray), (⟨#[43]⟩ : ByteArray)] : List ByteArray)) (inner := [.string (⟨#[40]⟩ : ByteArray), .string (⟨#[41]⟩ : ByteArray), .string (⟨#[100, 101, 102]⟩ : ByteArray), .string (⟨#[102, 48]⟩ : ByteArray), .string (⟨#[36, 49]⟩ : ByteArray), .string (⟨#[45, 55]⟩ : ByteArray), .string (⟨#[64, 51]⟩ : ByteArray), .string (⟨#[43]⟩ : ByteArray)]) (ok := fun _ => True) (okp := fun _ => True) ?hr ?hp (fun _ hk => hk) trivial (Below.refl _ _) (Nat.le_refl _) (by simp) ?_; (case hd => rfl); (case hg => rfl); (case hr => first | (go_simp; done) | (go_simp; rfl)); (case hp => exact (Reps.one (show Kd.M Kd.string _ _ _ (⟨#[40]⟩ : ByteArray) [.string (⟨#[40]⟩ : ByteArray)] from rfl) (Reps.one (show Kd.M Kd.string _ _ _ (⟨#[41]⟩ : ByteArray) [.string (⟨#[41]⟩ : ByteArray)] from rfl) (Reps.one (show Kd.M Kd.string _ _ _ (⟨#[100, 101, 102]⟩ : ByteArray) [.string (⟨#[100, 101, 102]⟩ : ByteArray)] from rfl) (Reps.one (show Kd.M Kd.string _ _ _ (⟨#[102, 48]⟩ : ByteArray) [.string (⟨#[102, 48]⟩ : ByteArray)] from rfl) (Reps.one (show Kd.M Kd.string _ _ _ (⟨#[36, 49]⟩ : ByteArray) [.string (⟨#[36, 49]⟩ : ByteArray)] from rfl) (Reps.one (show Kd.M Kd.string _ _ _ (⟨#[45, 55]⟩ : ByteArray) [.string (⟨#[45, 55]⟩ : ByteArray)] from rfl) (Reps.one (show Kd.M Kd.string _ _ _ (⟨#[64, 51]⟩ : ByteArray) [.string (⟨#[64, 51]⟩ : ByteArray)] from rfl) (Reps.one (show Kd.M Kd.string _ _ _ (⟨#[43]⟩ : ByteArray) [.string (⟨#[43]⟩ : ByteArray)] from rfl) (Reps.none _ _)))))))))); intro v0 w5 ho6 hb hg_ hnew_; clear hg_ hnew_; (first | rw [← Y0.out] at ho6 | (simp only [Int.reduceToNat] at ho6; rw [← Y0.out] at ho6)); have P0 := a_ (Kd.R_lower ho6 hS_); replace HB := a_ (below_step hB_ hb); clear hb ho6) | ((with_reducible refine gate_dst (N := 14) rfl ?_); refine Kd.R_lit Kd.string _ 9 ?hg (N := 14) ?hd (xs := ([(⟨#[32]⟩ : ByteArray), (⟨#[10]⟩ : ByteArray), (⟨#[32, 32, 10, 32]⟩ : ByteArray), (⟨#[32, 35, 32, 110, 111, 32, 40, 32, 41, 10]⟩ : ByteArray), (⟨#[35, 10]⟩ : ByteArray), (⟨#[10, 35, 120, 35, 121, 10, 10]⟩ : ByteArray)] : List ByteArray)) (inner := [.string (⟨#[32]⟩ : ByteArray), .string (⟨#[10]⟩ : ByteArray), .string (⟨#[32, 32, 10, 32]⟩ : ByteArray), .string (⟨#[32, 35, 32, 110, 111, 32, 40, 32, 41, 10]⟩ : ByteArray), .string (⟨#[35, 10]⟩ : ByteArray), .string (⟨#[10, 35, 120, 35, 121, 10, 10]⟩ : ByteArray)]) (ok := fun _ => True) (okp := fun _ => True) ?hr ?hp (fun _ hk => hk) trivial (Below.refl _ _) (Nat.le_refl _) (by simp) ?_; (case hd => rfl); (case hg => rfl); (case hr => first | (go_simp; done) | (go_simp; rfl)); (case hp => exact (Reps.one (show Kd.M Kd.string _ _ _ (⟨#[32]⟩ : ByteArray) [.string (⟨#[32]⟩ : ByteArray)] from rfl) (Reps.one (show Kd.M Kd.string _ _ _ (⟨#[10]⟩ : ByteArray) [.string (⟨#[10]⟩ : ByteArray)] from rfl) (Reps.one (show Kd.M Kd.string _ _ _ (⟨#[32, 32, 10, 32]⟩ : ByteArray) [.string (⟨#[32, 32, 10, 32]⟩ : ByteArray)] from rfl) (Reps.one (show Kd.M Kd.string _ _ _ (⟨#[32, 35, 32, 110, 111, 32, 40, 32, 41, 10]⟩ : ByteArray) [.string (⟨#[32, 35, 32, 110, 111, 32, 40, 32, 41, 10]⟩ : ByteArray)] from rfl) (Reps.one (show Kd.M Kd.string _ _ _ (⟨#[35, 10]⟩ : ByteArray) [.string (⟨#[35, 10]⟩ : ByteArray)] from rfl) (Reps.one (show Kd.M Kd.string _ _ _ (⟨#[10, 35, 120, 35, 121, 10, 10]⟩ : ByteArray) [.string (⟨#[10, 35, 120, 35, 121, 10, 10]⟩ : ByteArray)] from rfl) (Reps.none _ _)))))))); intro v1 w7 ho8 hb hg_ hnew_; clear hg_ hnew_; (first | rw [← Y1.out] at ho8 | (simp only [Int.reduceToNat] at ho8; rw [← Y1.out] at ho8)); have P3 := a_ (Kd.R_lower (Kd.R_new' ho8 (Kd.R_lt (hR_ P0.out))) hS_); replace P0 := a_ (Kd.R_elder' (hR_ P0.out) (Kd.R_base ho8) hb); replace HB := a_ (below_step hB_ hb); clear hb ho8))
 go_loopg [5, 6, 7] k (fun kq v5 v6 v7 w' => ∃ (x1 : ByteArray) (x2 : List ByteArray) (x0 : Int), v5 = .string x1 ∧ v7 = .int .i64 x0 ∧ Aside0 (sleuthlaw4_LexJoin.l0 kq l0 y0 y1 x1 x2 x0 = some r) ∧ Aside0 (kq ≤ k) ∧ Aside0 (Kd.R Kd.string 9 w' w.heap.size (fun k_ => some k_ ≠ (v1 : Value).ownBlock ∧ some k_ ≠ (v6 : Value).ownBlock) v0 y0) ∧ Aside0 (Kd.R Kd.string 9 w' w.heap.size (fun k_ => some k_ ≠ (v0 : Value).ownBlock ∧ some k_ ≠ (v6 : Value).ownBlock) v1 y1) ∧ Aside0 (Kd.R Kd.string 9 w' w.heap.size (fun k_ => some k_ ≠ (v0 : Value).ownBlock ∧ some k_ ≠ (v1 : Value).ownBlock) v6 x2) ∧ Aside0 (Below w.heap.size w w'))
 case atStart => exact ⟨((⟨#[10, 32]⟩ : ByteArray)), (([] : List ByteArray)), (0), hW_, hW_, H', ⟨Nat.le_refl _⟩, ⟨by (with_reducible repeat (first | apply Kd.R_alloc | apply Kd.R_drewN | apply Kd.R_drew)); exact Kd.R_mono P0.out (fun _ hk => ⟨hk.2, (by simp [Value.ownBlock])⟩)⟩, ⟨by (with_reducible repeat (first | apply Kd.R_alloc | apply Kd.R_drewN | apply Kd.R_drew)); exact Kd.R_mono P3.out (fun _ hk => ⟨hk.2, (by simp [Value.ownBlock])⟩)⟩, ⟨by first | exact Kd.R_nil _ _ _ _ _ | exact Kd.N_nil _ _ _ _ _ | exact Kd.V_nil _ _ _ _ _ | exact Kd.Q_nil _ _ _ _ _ | exact Kd.S_nil _ _ _ _ _⟩, ⟨hC_⟩⟩
 case round =>
  clear H'
  try clear c1
  try clear p2
  try clear c3
  try clear c5
  obtain ⟨x1, x2, x0, rfl, rfl, HA, HK1, O1, O2, O0, HB⟩ := hrel
  cases gk with
  | zero => exact absurd HA.out (by simp [sleuthlaw4_LexJoin.l0])
  | succ k1 =>
   have H := HA.out
   clear HA
   simp only [sleuthlaw4_LexJoin.l0] at H
   by_cases c9 : x0 < (l0.length : Int)
   case neg =>
    rw [if_neg c9] at H
    have c9b0 : decide (x0 < (l0.length : Int)) = false := decide_eq_false c9
    clear c9
    replace H := Option.bind_eq_some_iff.mp H
    obtain ⟨⟨t4, t2⟩, A310, H⟩ := H
    try dsimp only at H
    have A31 := a_ A310
    clear A310
    replace H := Option.bind_eq_some_iff.mp H
    obtain ⟨t0, A320, H⟩ := H
    try dsimp only at H
    have A32 := a_ A320
    clear A320
    by_cases c33 : t0 = 0
    case neg =>
     rw [if_neg c33] at H
     have c33b0 : (t0 == 0) = false := beq_eq_false_iff_ne.mpr c33
     have c33b1 : (t0 != 0) = true := bne_iff_ne.mpr c33
     cases H
    rw [if_pos c33] at H
    have c33b0 : (t0 == 0) = true := beq_iff_eq.mpr c33
    have c33b1 : (t0 != 0) = false := bne_eq_false_iff_eq.mpr c33
    clear c33
    replace H := Option.bind_eq_some_iff.mp H
    obtain ⟨t7, A340, H⟩ := H
    try dsimp only at H
    have A34 := a_ A340
    clear A340
    obtain rfl := Option.some.inj H
    go_wp2_with (first | ((with_reducible refine gate_callee (f := 8) rfl ?_); refine goesL_ (some 54) rfl rfl Tryd.func8 (by kernel_rfl) rfl #[.string x1] rfl hL_ ?_; (with_reducible refine (lex_Words.calls x1 t4 t2 _ A31.out hG_).mono ?_); rintro e w1 ⟨v2, rfl, ho0, hb⟩; refine ⟨_, rfl, ?_⟩; have P1 := a_ (Kd.R_lower (Kd.R_new' (Kd.R_new' (Kd.R_new' ho0 (Kd.R_lt (hR_ O1.out))) (Kd.R_lt (hR_ O2.out))) (Kd.R_lt (hR_ O0.out))) hS_); replace O1 := a_ (Kd.R_elder' (hR_ O1.out) (Kd.R_base ho0) hb); replace O2 := a_ (Kd.R_elder' (hR_ O2.out) (Kd.R_base ho0) hb); replace O0 := a_ (Kd.R_elder' (hR_ O0.out) (Kd.R_base ho0) hb); replace HB := a_ (below_step hB_ hb); (try clear hb); (try clear hb2); (try clear hk); (try clear hi); (try clear ho0)) | ((with_reducible refine gate_callee (f := 11) rfl ?_); refine goesL_ _ rfl rfl Tryd.func11 (by kernel_rfl) rfl #[.int .i64 t2] rfl hL_ ?_; (with_reducible refine (sleuthlaw0_Num.calls t2 t0 _ A32.out).mono ?_); rintro e w' ⟨rfl, ⟨nd, rfl⟩⟩; refine ⟨_, rfl, ?_⟩; obtain ⟨a0, o2, e0⟩ := Kd.R_slice P1.out; subst e0; obtain ⟨a1, o3, e1⟩ := Kd.R_slice O0.out; subst e1) | (go_at_call 10; (with_reducible refine (sleuthlaw0_SameTexts.calls k1 _ _ t4 _ _ x2 t7 _ ?s1 ?s2 ?s3 ?s4 A34.out).mono ?_); (case s1 => exact cC_ (Kd.R_reads' P1.out).2.2); (case s2 => exact (Kd.R_reads' P1.out).2.1); (case s3 => exact cC_ (Kd.R_reads' O0.out).2.2); (case s4 => exact (Kd.R_reads' O0.out).2.1); rintro e w' ⟨rfl, ⟨nd, rfl⟩⟩))
    go_ret
    exact ⟨hV_, hC_⟩
   rw [if_pos c9] at H
   have c9b0 : decide (x0 < (l0.length : Int)) = true := decide_eq_true c9
   clear c9
   by_cases c10 : x0 < 40
   case neg =>
    rw [if_neg c10] at H
    have c10b0 : decide (x0 < 40) = false := decide_eq_false c10
    clear c10
    replace H := Option.bind_eq_some_iff.mp H
    obtain ⟨⟨t5, t3⟩, A230, H⟩ := H
    try dsimp only at H
    have A23 := a_ A230
    clear A230
    replace H := Option.bind_eq_some_iff.mp H
    obtain ⟨t1, A240, H⟩ := H
    try dsimp only at H
    have A24 := a_ A240
    clear A240
    by_cases c25 : t1 = 0
    case neg =>
     rw [if_neg c25] at H
     have c25b0 : (t1 == 0) = false := beq_eq_false_iff_ne.mpr c25
     have c25b1 : (t1 != 0) = true := bne_iff_ne.mpr c25
     cases H
    rw [if_pos c25] at H
    have c25b0 : (t1 == 0) = true := beq_iff_eq.mpr c25
    have c25b1 : (t1 != 0) = false := bne_eq_false_iff_eq.mpr c25
    clear c25
    replace H := Option.bind_eq_some_iff.mp H
    obtain ⟨t8, A260, H⟩ := H
    try dsimp only at H
    have A26 := a_ A260
    clear A260
    obtain rfl := Option.some.inj H
    go_wp2_with (first | ((with_reducible refine gate_callee (f := 8) rfl ?_); refine goesL_ (some 54) rfl rfl Tryd.func8 (by kernel_rfl) rfl #[.string x1] rfl hL_ ?_; (with_reducible refine (lex_Words.calls x1 t5 t3 _ A23.out hG_).mono ?_); rintro e w2 ⟨v3, rfl, ho0, hb⟩; refine ⟨_, rfl, ?_⟩; have P2 := a_ (Kd.R_lower (Kd.R_new' (Kd.R_new' (Kd.R_new' ho0 (Kd.R_lt (hR_ O1.out))) (Kd.R_lt (hR_ O2.out))) (Kd.R_lt (hR_ O0.out))) hS_); replace O1 := a_ (Kd.R_elder' (hR_ O1.out) (Kd.R_base ho0) hb); replace O2 := a_ (Kd.R_elder' (hR_ O2.out) (Kd.R_base ho0) hb); replace O0 := a_ (Kd.R_elder' (hR_ O0.out) (Kd.R_base ho0) hb); replace HB := a_ (below_step hB_ hb); (try clear hb); (try clear hb2); (try clear hk); (try clear hi); (try clear ho0)) | ((with_reducible refine gate_callee (f := 11) rfl ?_); refine goesL_ _ rfl rfl Tryd.func11 (by kernel_rfl) rfl #[.int .i64 t3] rfl hL_ ?_; (with_reducible refine (sleuthlaw0_Num.calls t3 t1 _ A24.out).mono ?_); rintro e w' ⟨rfl, ⟨nd, rfl⟩⟩; refine ⟨_, rfl, ?_⟩; obtain ⟨a2, o4, e2⟩ := Kd.R_slice P2.out; subst e2; obtain ⟨a3, o5, e3⟩ := Kd.R_slice O0.out; subst e3) | (go_at_call 10; (with_reducible refine (sleuthlaw0_SameTexts.calls k1 _ _ t5 _ _ x2 t8 _ ?s1 ?s2 ?s3 ?s4 A26.out).mono ?_); (case s1 => exact cC_ (Kd.R_reads' P2.out).2.2); (case s2 => exact (Kd.R_reads' P2.out).2.1); (case s3 => exact cC_ (Kd.R_reads' O0.out).2.2); (case s4 => exact (Kd.R_reads' O0.out).2.1); rintro e w' ⟨rfl, ⟨nd, rfl⟩⟩))
    go_ret
    exact ⟨hV_, hC_⟩
   rw [if_pos c10] at H
   have c10b0 : decide (x0 < 40) = true := decide_eq_true c10
   clear c10
   replace H := ifI_ H; obtain ⟨c11, H⟩ := H
   have c11b0 : decide (0 ≤ x0) = true := decide_eq_true c11
   clear c11
   replace H := ifI_ H; obtain ⟨c12, H⟩ := H
   have c12b0 : decide (0 ≤ (Go.bits .and .i64 (rd l0 x0) 7)) = true := decide_eq_true c12
   clear c12
   replace H := ifI_ H; obtain ⟨c13, H⟩ := H
   have c13b0 : decide ((Go.bits .and .i64 (rd l0 x0) 7) < (y0.length : Int)) = true := decide_eq_true c13
   clear c13
   replace H := ifI_ H; obtain ⟨c14, H⟩ := H
   have c14b0 := eq_true c14
   have c14b1 : decide (x1.size + (rdOf ByteArray.empty y0 (Go.bits .and .i64 (rd l0 x0) 7)).size ≤ 9223372036854775807) = true := decide_eq_true c14
   try have c14b2 : (9223372036854775807 < x1.size + (rdOf ByteArray.empty y0 (Go.bits .and .i64 (rd l0 x0) 7)).size) = False := eq_false (Nat.not_lt.2 c14)
   obtain ⟨ji15, hji15⟩ : ∃ j_ : Int, (wrap64 (Int.tmod ((IntKind.u64.wrap (rd l0 x0)) / 8) 6)) = j_ := ⟨_, rfl⟩
   replace H : (if 0 ≤ (ji15) then (if (ji15) < (y1.length : Int) then (if (x1 ++ (rdOf ByteArray.empty y0 (Go.bits .and .i64 (rd l0 x0) 7))).size + (rdOf ByteArray.empty y1 (ji15)).size ≤ 9223372036854775807 then (if x2.length < 8796093022208 then (sleuthlaw4_LexJoin.l0 k1 l0 y0 y1 ((x1 ++ (rdOf ByteArray.empty y0 (Go.bits .and .i64 (rd l0 x0) 7))) ++ (rdOf ByteArray.empty y1 (ji15))) (x2 ++ [rdOf ByteArray.empty y0 (Go.bits .and .i64 (rd l0 x0) 7)]) (wrap64 (x0 + 1))) else (none)) else (none)) else (none)) else (none)) = some r := by first | (rw [hji15] at H; exact H) | (simp only [hji15] at H ⊢; exact H)
   have hji15w : (IntKind.i64.wrap (Int.tmod ((IntKind.u64.wrap (rd l0 x0)) / 8) 6)) = ji15 := (i64_w _).trans hji15
   replace H := ifI_ H; obtain ⟨c16, H⟩ := H
   have c16b0 : decide (0 ≤ (ji15)) = true := decide_eq_true c16
   clear c16
   replace H := ifI_ H; obtain ⟨c17, H⟩ := H
   have c17b0 : decide ((ji15) < (y1.length : Int)) = true := decide_eq_true c17
   clear c17
   replace H := ifI_ H; obtain ⟨c18, H⟩ := H
   have c18b0 := eq_true c18
   have c18b1 : decide ((x1 ++ (rdOf ByteArray.empty y0 (Go.bits .and .i64 (rd l0 x0) 7))).size + (rdOf ByteArray.empty y1 (ji15)).size ≤ 9223372036854775807) = true := decide_eq_true c18
   try have c18b2 : (9223372036854775807 < (x1 ++ (rdOf ByteArray.empty y0 (Go.bits .and .i64 (rd l0 x0) 7))).size + (rdOf ByteArray.empty y1 (ji15)).size) = False := eq_false (Nat.not_lt.2 c18)
   try have c18b3 : (9223372036854775807 < x1.size + (rdOf ByteArray.empty y0 (Go.bits .and .i64 (rd l0 x0) 7)).size + (rdOf ByteArray.empty y1 (ji15)).size) = False := eq_false (Nat.not_lt.2 (by have h_ := c18; simp only [ByteArray.size_append, ByteArray.size_extract, Nat.min_self] at h_; omega))
   replace H := ifI_ H; obtain ⟨c19, H⟩ := H
   have LMc19 := a_ c19
   clear c19
   obtain ⟨y2, i2⟩ : ∃ y_ : List ByteArray, y_ = (x2 ++ [rdOf ByteArray.empty y0 (Go.bits .and .i64 (rd l0 x0) 7)]) := ⟨_, rfl⟩
   replace H : (sleuthlaw4_LexJoin.l0 k1 l0 y0 y1 ((x1 ++ (rdOf ByteArray.empty y0 (Go.bits .and .i64 (rd l0 x0) 7))) ++ (rdOf ByteArray.empty y1 (ji15))) y2 (wrap64 (x0 + 1))) = some r := by first | (rw [i2]; with_reducible exact H) | (have H2_ := (Option.bind_some _ _).symm.trans H; rw [i2]; with_reducible exact H2_) | (have H2_ := (Option.bind_some _ _).symm.trans H; with_reducible exact H2_) | with_reducible exact H | (rw [i2]; exact H) | exact H
   have Y2 := a_ i2
   clear i2
   have H' := a_ H
   clear H
   have p173 : 0 ≤ (x0 : Int) := of_decide_eq_true hA_
   have q173 : x0 < (l0.length : Int) := of_decide_eq_true hA_
   obtain ⟨d2, e173, h0⟩ := Kd.at_int HR0.out x0 p173 q173
   cases e173
   replace h0 := cl_ HB.out h0
   replace p173 := eq_true p173
   replace q173 := eq_true q173
   obtain ⟨a4, o0, e4⟩ := Kd.R_slice O1.out
   subst e4
   have p174 : 0 ≤ ((Go.bits .and .i64 (rd l0 x0) 7) : Int) := of_decide_eq_true hA_
   have q174 : (Go.bits .and .i64 (rd l0 x0) 7) < (y0.length : Int) := of_decide_eq_true hA_
   obtain ⟨d0, e174, h2⟩ := Kd.at_string (Kd.R_reads' O1.out).2.2 (Go.bits .and .i64 (rd l0 x0) 7) p174 q174
   cases e174
   replace p174 := eq_true p174
   replace q174 := eq_true q174
   have p175 : 0 ≤ (x0 : Int) := of_decide_eq_true hA_
   have q175 : x0 < (l0.length : Int) := of_decide_eq_true hA_
   obtain ⟨d3, e175, h1⟩ := Kd.at_int HR0.out x0 p175 q175
   obtain rfl : d2 = d3 := (by injection e175)
   replace h1 := cl_ HB.out h1
   replace p175 := eq_true p175
   replace q175 := eq_true q175
   obtain ⟨a5, o1, e5⟩ := Kd.R_slice O2.out
   subst e5
   have p176 : 0 ≤ ((ji15) : Int) := of_decide_eq_true hA_
   have q176 : (ji15) < (y1.length : Int) := of_decide_eq_true hA_
   obtain ⟨d1, e176, h3⟩ := Kd.at_string (Kd.R_reads' O2.out).2.2 (ji15) p176 q176
   cases e176
   replace p176 := eq_true p176
   replace q176 := eq_true q176
   go_wp2_with (first | ((with_reducible refine gate_builtin (b := .append) (xs := #[.tmp 48, .tmp 50]) rfl ?_); at_builtin; refine Kd.R_append Kd.string (w0 := w) w.heap.size rfl (.tmp 48) (.tmp 50) 22 9 (.string ⟨#[]⟩) 16 rfl Tryd.underlying22 info9 rfl (by decide) (by omega) u6 x2 (rdOf ByteArray.empty y0 (Go.bits .and .i64 (rd l0 x0) 7)) [.string (rdOf ByteArray.empty y0 (Go.bits .and .i64 (rd l0 x0) 7))] (fun k_ => some k_ ≠ (.slice (some d0) y0.length o0 : Value).ownBlock ∧ some k_ ≠ (.slice (some d1) y1.length o1 : Value).ownBlock) (fun _ => False) rfl rfl ?aP (fun _ hk => hk.elim) ?aF ?aO ?aB ?aS ?aL ?_; (case aP => exact rfl); (case aB => exact hB_); (case aF => exact (fun k_ hk => ⟨Kd.fresh' (Kd.R_lt (hR_ O1.out)) k_ hk, Kd.fresh' (Kd.R_lt (hR_ O2.out)) k_ hk⟩)); (case aO => exact (hR_ O0.out)); (case aS => exact hS_); (case aL => have := LMc19.out; omega); intro v4 w3 ho hb hg hat; rw [← Y2.out] at ho; replace O1 := a_ (Kd.R_after (ok := (fun k_ => some k_ ≠ (.slice (some d1) y1.length o1 : Value).ownBlock)) (hR_ O1.out) hg hat); replace O2 := a_ (Kd.R_after (ok := (fun k_ => some k_ ≠ (.slice (some d0) y0.length o0 : Value).ownBlock)) (hR_ O2.out) hg hat); replace HB := a_ (hb); have P4 := a_ (ho); clear O0; clear ho hb hg hat))
   go_roundg k1
   case measure => have := HK1.out; omega
   case rel => exact ⟨((x1 ++ (rdOf ByteArray.empty y0 (Go.bits .and .i64 (rd l0 x0) 7))) ++ (rdOf ByteArray.empty y1 (ji15))), (y2), (wrap64 (x0 + 1)), (by first | rfl | (simp; done) | (simp only [← hji15] <;> (first | rfl | simp)) | (simp [*]; done)), hW_, H', ⟨by have := HK1.out; omega⟩, ⟨hR_ O1.out⟩, ⟨hR_ O2.out⟩, ⟨hR_ P4.out⟩, ⟨hC_⟩⟩
end Go.Proofs.YtljlmkbcichlpaaDoor.G
