/- The law LexForms, as a plain statement about what the program computes. -/
import Derived.Test.YtljlmkbcichlpaaDoorLexWake
import Derived.Test.YtljlmkbcichlpaaDoorG7
namespace Go.Proofs.YtljlmkbcichlpaaDoor.G
open Go.RowKit Go.Proofs.YtljlmkbcichlpaaDoorW.PrintWords Go.Proofs.YtljlmkbcichlpaaDoorW.PrintLast Go.Proofs.YtljlmkbcichlpaaDoorW.PrintMore
set_option linter.unusedVariables false
set_option linter.unusedSimpArgs false
theorem and_range (x : Int) (m : Nat) (hm : m < 9223372036854775808) : 0 ≤ Go.bits .and .i64 x (m : Int) ∧ Go.bits .and .i64 x (m : Int) ≤ m := by
  have h : (BitVec.ofInt IntKind.i64.bits x &&& BitVec.ofInt IntKind.i64.bits (m : Int)).toNat ≤ m := by
    rw [BitVec.toNat_and, BitVec.ofInt_natCast, BitVec.toNat_ofNat]
    exact Nat.le_trans Nat.and_le_right (Nat.mod_le _ _)
  unfold Go.bits
  simp only [IntKind.wrap_i64]
  omega
theorem str_q (m : Nat) : strOfNums (List.replicate m (113 : Int)) = bsOf (List.replicate m 113) := by
  rw [← bsOf_data (strOfNums _), strOfNums_data, List.map_replicate]
  rfl
theorem lexGo_q : ∀ (n : Nat) (w : List UInt8), lexGo w false (List.replicate n 113) = flushL (w ++ List.replicate n 113)
  | 0, w => by rw [List.replicate_zero, lexGo_nil, List.append_nil]
  | n + 1, w => by
    rw [List.replicate_succ, lexGo_f, if_neg (by decide), if_neg (by decide), if_neg (by decide), lexGo_q n, List.append_assoc]; rfl
theorem q_bad (m : Nat) (h : 2048 < m) : lex_Words.f (bsOf (List.replicate m 113)) = some ([], 400) := by
  refine words_bad _ ?_
  unfold okS
  rw [decide_eq_false (by rw [bsOf_size, List.length_replicate]; omega), Bool.false_and]
theorem q_ok : lex_Words.f (bsOf (List.replicate 2048 113)) = some ([bsOf (List.replicate 2048 113)], 0) := by
  have h : okS (bsOf (List.replicate 2048 113)) = true := by
    unfold okS
    rw [decide_eq_true (by rw [bsOf_size, List.length_replicate]; omega), Bool.true_and, List.all_eq_true]
    intro b hb
    have : b ∈ List.replicate 2048 (113 : UInt8) := hb
    rw [(List.mem_replicate.1 this).2]
    rfl
  rw [words_ok _ h]
  have e : lexGo [] false (bsOf (List.replicate 2048 113)).data.toList = [List.replicate 2048 113] := by
    show lexGo [] false (List.replicate 2048 113) = _
    rw [lexGo_q, List.nil_append]
    unfold flushL
    rw [if_neg (by rw [List.isEmpty_replicate]; decide)]
  rw [e]; rfl
theorem forms_l0 (N : Nat) (hN : 2048 < N) (hN2 : N ≤ 4096) : ∀ (n i : Nat) (x : List Int), i + n = N → x.length = N → x.take i = List.replicate i 113 → Ev (fun k => sleuthlaw4_LexForms.l0 k 400 x (i : Int)) true
  | 0, i, x, hi, hx, ht => by
    have hxe : x = List.replicate N 113 := by
      have : i = N := by omega
      rw [← List.take_of_length_le (show x.length ≤ i by omega), ht, this]
    have hxt : x.take 2048 = List.replicate 2048 113 := by rw [hxe, List.take_replicate, Nat.min_eq_left (by omega)]
    have hs : (rdOf ByteArray.empty [bsOf (List.replicate 2048 113)] 0).size = 2048 := by
      show (bsOf (List.replicate 2048 113)).size = 2048
      rw [bsOf_size, List.length_replicate]
    refine Ev.step (f := fun _ => some true) (fun k => ?_) (Ev.now _)
    rw [sleuthlaw4_LexForms.l0, if_neg (by omega), hxt, hxe, str_q, str_q, q_bad N hN, q_ok]
    simp only [Option.bind_some, sleuthlaw0_Num.f, List.length_replicate, if_pos]
    rw [if_pos (by omega), hs]
    rfl
  | n + 1, i, x, hi, hx, ht => by
    have hw : wrap64 ((i : Int) + 1) = ((i + 1 : Nat) : Int) := by rw [w64 (by omega) (by omega)]; omega
    refine Ev.step (f := fun k => sleuthlaw4_LexForms.l0 k 400 (x.set i 113) ((i + 1 : Nat) : Int)) (fun k => ?_) (forms_l0 N hN hN2 n (i + 1) (x.set i 113) (by omega) (by rw [List.length_set]; exact hx) ?_)
    · rw [sleuthlaw4_LexForms.l0, if_pos (by omega), if_pos (by omega), Int.toNat_natCast, hw]
    · have hil : i < (x.set i 113).length := by rw [List.length_set]; omega
      rw [List.take_succ_eq_append_getElem hil, List.getElem_set_self, List.take_set_of_le (Nat.le_refl i), ht, ← List.replicate_succ']
theorem bad_tails (v : Int) (h0 : 0 ≤ v) (h1 : v ≤ 7) : lex_Words.f ((⟨#[97]⟩ : ByteArray) ++ rdOf ByteArray.empty [(⟨#[9]⟩ : ByteArray), (⟨#[13]⟩ : ByteArray), (⟨#[0]⟩ : ByteArray), (⟨#[127]⟩ : ByteArray), (⟨#[255]⟩ : ByteArray), (⟨#[31]⟩ : ByteArray), (⟨#[195, 169]⟩ : ByteArray), (⟨#[11]⟩ : ByteArray)] v) = some ([], 400)
    ∧ (rdOf ByteArray.empty [(⟨#[9]⟩ : ByteArray), (⟨#[13]⟩ : ByteArray), (⟨#[0]⟩ : ByteArray), (⟨#[127]⟩ : ByteArray), (⟨#[255]⟩ : ByteArray), (⟨#[31]⟩ : ByteArray), (⟨#[195, 169]⟩ : ByteArray), (⟨#[11]⟩ : ByteArray)] v).size ≤ 2 := by
  have : v = 0 ∨ v = 1 ∨ v = 2 ∨ v = 3 ∨ v = 4 ∨ v = 5 ∨ v = 6 ∨ v = 7 := by omega
  rcases this with rfl | rfl | rfl | rfl | rfl | rfl | rfl | rfl <;> exact ⟨words_bad _ (by decide), by decide⟩
theorem lexForms_pure (a0 a1 : Int) (h0 : (Lit.int .i64 a0).wf = true) (h1 : (Lit.int .i64 a1).wf = true) : ∃ k, sleuthlaw4_LexForms.f k a0 a1 = some true := by
  refine Ev.rounds (g := fun k => sleuthlaw4_LexForms.f k a0 a1) ?_
  have b0 := and_range a0 7 (by omega)
  have b1 := and_range a1 1023 (by omega)
  unfold sleuthlaw4_LexForms.f
  refine Ev.bind awake_ev ?_
  simp only [Option.bind_some, if_pos]
  have e7 : ((7 : Nat) : Int) = 7 := rfl
  have e1023 : ((1023 : Nat) : Int) = 1023 := rfl
  rw [e7] at b0
  rw [e1023] at b1
  generalize Go.bits .and .i64 a0 7 = v at b0 ⊢
  generalize Go.bits .and .i64 a1 1023 = u at b1 ⊢
  obtain ⟨t1, t2⟩ := bad_tails v b0.1 b0.2
  have hN : wrap64 (2048 + wrap64 (1 + u)) = ((2049 + u.toNat : Nat) : Int) := by rw [w64 (x := 1 + u) (by omega) (by omega), w64 (by omega) (by omega)]; omega
  rw [hN, Int.toNat_natCast]
  have g1 : v < (([(⟨#[9]⟩ : ByteArray), (⟨#[13]⟩ : ByteArray), (⟨#[0]⟩ : ByteArray), (⟨#[127]⟩ : ByteArray), (⟨#[255]⟩ : ByteArray), (⟨#[31]⟩ : ByteArray), (⟨#[195, 169]⟩ : ByteArray), (⟨#[11]⟩ : ByteArray)] : List ByteArray).length : Int) := by show v < 8; omega
  have g0 := b0.1
  have g2 : 1 + (rdOf ByteArray.empty [(⟨#[9]⟩ : ByteArray), (⟨#[13]⟩ : ByteArray), (⟨#[0]⟩ : ByteArray), (⟨#[127]⟩ : ByteArray), (⟨#[255]⟩ : ByteArray), (⟨#[31]⟩ : ByteArray), (⟨#[195, 169]⟩ : ByteArray), (⟨#[11]⟩ : ByteArray)] v).size ≤ 9223372036854775807 := by omega
  have g3 : (0 : Int) ≤ ((2049 + u.toNat : Nat) : Int) := by omega
  have g4 : 2049 + u.toNat ≤ 281474976710656 := by omega
  simp only [if_pos g0, if_pos g1, if_pos g2, t1, Option.bind_some, if_pos g3, if_pos g4]
  exact forms_l0 (2049 + u.toNat) (by omega) (by omega) _ 0 _ (Nat.zero_add _) List.length_replicate rfl
end Go.Proofs.YtljlmkbcichlpaaDoor.G
