/- The law FileForms of package file, as a plain statement about what the program computes. -/
import Derived.Test.YtnhmmbgnaogokaaDoorU11
import Derived.Test.YtnhmmbgnaogokaaDoorG34
namespace Go.Proofs.YtnhmmbgnaogokaaDoor.G
open Go.RowKit Go.Proofs.YtnhmmbgnaogokaaDoorW.PrintWords Go.Proofs.YtnhmmbgnaogokaaDoorW.PrintLast Go.Proofs.YtnhmmbgnaogokaaDoorW.PrintMore
set_option linter.unusedVariables false
set_option linter.unusedSimpArgs false
theorem and_rangeF (x : Int) (m : Nat) (hm : m < 9223372036854775808) : 0 ≤ Go.bits .and .i64 x (m : Int) ∧ Go.bits .and .i64 x (m : Int) ≤ m := by
  have h : (BitVec.ofInt IntKind.i64.bits x &&& BitVec.ofInt IntKind.i64.bits (m : Int)).toNat ≤ m := by
    rw [BitVec.toNat_and, BitVec.ofInt_natCast, BitVec.toNat_ofNat]
    exact Nat.le_trans Nat.and_le_right (Nat.mod_le _ _)
  unfold Go.bits
  simp only [IntKind.wrap_i64]
  omega
def longK : Nat → ByteArray
  | 0 => ⟨#[49]⟩
  | j + 1 => ((⟨#[64, 49, 40]⟩ : ByteArray) ++ longK j) ++ (⟨#[41]⟩ : ByteArray)
theorem longK_size : ∀ j, (longK j).size = 1 + 4 * j
  | 0 => rfl
  | j + 1 => by
    rw [longK, ByteArray.size_append, ByteArray.size_append, longK_size j]
    show 3 + (1 + 4 * j) + 1 = _
    omega
set_option maxRecDepth 100000 in
theorem long_may : mayS (longK 250) = true := by decide +kernel
def nodeL : Nd := ⟨0, 0, [], longK 250⟩
def nodeZ : Nd := ⟨0, 0, [], ⟨#[]⟩⟩
def manyAt17 (n i : Nat) : List Nd := (List.range n).map fun j => if j < i then nodeL else nodeZ
theorem manyAt17_len (n i : Nat) : (manyAt17 n i).length = n := by unfold manyAt17; rw [List.length_map, List.length_range]
theorem manyAt17_get (n i j : Nat) (h : j < (manyAt17 n i).length) : (manyAt17 n i)[j] = if j < i then nodeL else nodeZ := by
  simp only [manyAt17, List.getElem_map, List.getElem_range]
theorem manyAt17_set (n i : Nat) (h : i < n) : (manyAt17 n i).set i nodeL = manyAt17 n (i + 1) := by
  refine List.ext_getElem (by rw [List.length_set, manyAt17_len, manyAt17_len]) fun j h1 h2 => ?_
  rw [List.getElem_set, manyAt17_get n (i + 1) j h2]
  by_cases c : i = j
  · subst c
    rw [if_pos rfl, if_pos (by omega)]
  · rw [if_neg c, manyAt17_get]
    by_cases c2 : j < i
    · rw [if_pos c2, if_pos (by omega)]
    · rw [if_neg c2, if_neg (by omega)]
def many17 (n : Nat) : List Nd := (manyAt17 n n).set 0 ⟨0, -1, [], longK 250⟩
theorem many17_may (n : Nat) (h0 : 0 < n) (h1 : n ≤ 512) : mayT (many17 n) = true := by
  refine (mayT_iff _).2 ⟨by unfold many17; rw [List.length_set, manyAt17_len]; exact h0, fun i hi => ?_⟩
  unfold many17 at hi ⊢
  rw [List.length_set, manyAt17_len] at hi
  rw [List.getElem_set]
  by_cases c : 0 = i
  · subst c
    rw [if_pos rfl]
    unfold nextS eqS
    simp [long_may]
  · rw [if_neg c, manyAt17_get, if_pos hi]
    unfold nextS eqS nodeL
    simp [long_may]
    omega
theorem recL_none (a b : Int) (s : ByteArray) : (recOf ⟨a, b, [], s⟩).size = 6 + s.size := by
  unfold recOf recL textL
  rw [size_strOfNums]
  simp only [List.length_append, lowL_length, List.flatMap_nil, List.length_nil, bytesOf_length]
  omega
theorem fileB_same (m : Nat) : ∀ (xs : List Nd), (∀ x ∈ xs, (frec x).size = m) → (fileB xs).size = m * xs.length
  | [], _ => rfl
  | x :: xs, h => by
    rw [fileB, ByteArray.size_append, h x List.mem_cons_self, fileB_same m xs (fun y hy => h y (List.mem_cons_of_mem _ hy)), List.length_cons, Nat.mul_add]
    omega
theorem many17_size (n : Nat) : (fileB (many17 n)).size = 1013 * n := by
  have hl : (many17 n).length = n := by unfold many17; rw [List.length_set, manyAt17_len]
  rw [fileB_same 1013 (many17 n) ?_, hl]
  intro x hx
  obtain ⟨i, hi, rfl⟩ := List.getElem_of_mem hx
  unfold many17 at hi ⊢
  rw [List.length_set, manyAt17_len] at hi
  rw [List.getElem_set]
  by_cases c : 0 = i
  · rw [if_pos c, frec_size, recL_none, longK_size]
  · rw [if_neg c, manyAt17_get, if_pos hi, frec_size]
    unfold nodeL
    rw [recL_none, longK_size]
theorem forms17_l1 (n : Nat) (h0 : 60 ≤ n) (h1 : n ≤ 91) : ∀ (d i : Nat), i + d = n → Ev (fun k => sleuthlaw17_FileForms.l1 k (⟨#[]⟩ : ByteArray) 1700 (longK 250) (manyAt17 n i) (i : Int)) true := by
  intro d
  induction d with
  | zero =>
    intro i hi
    have hi' : i = n := by omega
    subst hi'
    have hl := manyAt17_len i i
    have g1 : ¬ (i : Int) < (((manyAt17 i i).length : Nat) : Int) := by omega
    have g2 : 0 < (((manyAt17 i i).length : Nat) : Int) := by omega
    have hz : (manyAt17 i i)[0]? = some nodeL := by rw [List.getElem?_eq_getElem (by omega), manyAt17_get, if_pos (by omega)]
    have hrd : rn (manyAt17 i i) 0 = nodeL := by
      have := rn_eq (manyAt17 i i) 0 (by omega)
      rw [show ((0 : Nat) : Int) = 0 from rfl] at this
      rw [this, manyAt17_get, if_pos (by omega)]
    have hw : wrap64 (1013 * (((manyAt17 i i).length : Nat) : Int)) = 1013 * (i : Int) := by rw [hl, w64 (by omega) (by omega)]
    have e1 := text_ev (many17 i)
    have hT : textS (many17 i) = if 65536 < 1013 * i then (⟨#[]⟩, 1700) else (fileB (many17 i), 0) := by
      unfold textS
      rw [if_pos (many17_may i (by omega) (by omega)), many17_size]
    refine Ev.step (f := fun k => (file_Text.f k (many17 i)).bind fun bt374 => (if (1013 * (i : Int)) ≤ 65536 then ((sleuthlaw0_Num.f bt374.2).bind fun t377 => (if t377 = 0 then (if (bt374.1.size : Int) = 1013 * (i : Int) then (some true) else (if (1013 * (i : Int)) ≤ 65536 then (none) else (if bt374.1.toList = ([] : List UInt8) then (some (t377 == 1700)) else (none)))) else (if (1013 * (i : Int)) ≤ 65536 then (none) else (if bt374.1.toList = ([] : List UInt8) then (some (t377 == 1700)) else (none))))) else (if (1013 * (i : Int)) ≤ 65536 then (none) else (if bt374.1.toList = ([] : List UInt8) then ((sleuthlaw0_Num.f bt374.2).bind fun t378 => (some (t378 == 1700))) else (none))))) (fun k => ?_) ?_
    · rw [sleuthlaw17_FileForms.l1, if_neg g1, if_pos g2]
      unfold rn at hrd
      rw [hrd, hw]
      have e0 : (⟨#[]⟩ : ByteArray).toList = ([] : List UInt8) := toList_eq _
      simp only [if_pos e0, sleuthlaw0_Num.f, Option.bind_some, if_pos]
      rfl
    · refine Ev.bind e1 ?_
      rw [hT]
      by_cases c : 65536 < 1013 * i
      · rw [if_pos c]
        refine evn (show ¬ (1013 * (i : Int)) ≤ 65536 by omega) ?_
        refine evn (show ¬ (1013 * (i : Int)) ≤ 65536 by omega) ?_
        refine evp (toList_eq _) ?_
        exact Ev.now _
      · rw [if_neg c]
        refine evp (show (1013 * (i : Int)) ≤ 65536 by omega) ?_
        refine Ev.bind (num_ev (0 : Int)) ?_
        refine evp rfl ?_
        refine evp (show ((fileB (many17 i)).size : Int) = 1013 * (i : Int) by rw [many17_size]; omega) ?_
        exact Ev.now _
  | succ d ih =>
    intro i hi
    have hl := manyAt17_len n i
    have g1 : (i : Int) < (((manyAt17 n i).length : Nat) : Int) := by omega
    have g2 : 0 ≤ (i : Int) := by omega
    have hrd : rn (manyAt17 n i) (i : Int) = nodeZ := by rw [rn_eq _ i (by omega), manyAt17_get, if_neg (by omega)]
    have hw : wrap64 ((i : Int) + 1) = ((i + 1 : Nat) : Int) := by rw [w64 (by omega) (by omega)]; omega
    refine Ev.step (f := fun k => sleuthlaw17_FileForms.l1 k (⟨#[]⟩ : ByteArray) 1700 (longK 250) (manyAt17 n (i + 1)) ((i + 1 : Nat) : Int)) (fun k => ?_) (ih (i + 1) (by omega))
    rw [sleuthlaw17_FileForms.l1, if_pos g1, if_pos g2, hw]
    unfold rn at hrd
    rw [hrd, Int.toNat_natCast, ← manyAt17_set n i (by omega)]
    rfl
theorem forms17_l0 (a1 : Int) : ∀ (d j : Nat), j + d = 250 → Ev (fun k => sleuthlaw17_FileForms.l0 k a1 (⟨#[]⟩ : ByteArray) 1700 (longK j) (j : Int)) true := by
  intro d
  induction d with
  | zero =>
    intro j hj
    have hj' : j = 250 := by omega
    subst hj'
    obtain ⟨b0, b1⟩ := and_rangeF a1 31 (by decide)
    obtain ⟨y, hy⟩ : ∃ y : Nat, Go.bits .and .i64 a1 31 = (y : Int) := ⟨(Go.bits .and .i64 a1 31).toNat, by have : (0 : Int) ≤ Go.bits .and .i64 a1 31 := b0; omega⟩
    have hy2 : y ≤ 31 := by have : Go.bits .and .i64 a1 31 ≤ 31 := b1; omega
    have hw : wrap64 (60 + (y : Int)) = ((60 + y : Nat) : Int) := by rw [w64 (by omega) (by omega)]; omega
    have g1 : ¬ (((250 : Nat) : Int) < 250) := by decide
    have g2 : 0 ≤ ((60 + y : Nat) : Int) := by omega
    have g3 : 60 + y ≤ 5026338869833 := by omega
    refine Ev.step (f := fun k => sleuthlaw17_FileForms.l1 k (⟨#[]⟩ : ByteArray) 1700 (longK 250) (manyAt17 (60 + y) 0) ((0 : Nat) : Int)) (fun k => ?_) (forms17_l1 (60 + y) (by omega) (by omega) (60 + y) 0 (by omega))
    rw [sleuthlaw17_FileForms.l0, if_neg g1, hy, hw, if_pos g2, Int.toNat_natCast, if_pos g3]
    have e : manyAt17 (60 + y) 0 = List.replicate (60 + y) nodeZ := by
      refine List.ext_getElem (by rw [manyAt17_len, List.length_replicate]) fun i h1 h2 => ?_
      rw [manyAt17_get, if_neg (Nat.not_lt_zero _), List.getElem_replicate]
    rw [e]
    rfl
  | succ d ih =>
    intro j hj
    have hs := longK_size j
    have g1 : (j : Int) < 250 := by omega
    have g2 : 3 + (longK j).size ≤ 9223372036854775807 := by omega
    have g3 : ((⟨#[64, 49, 40]⟩ : ByteArray) ++ longK j).size + 1 ≤ 9223372036854775807 := by
      rw [ByteArray.size_append]
      show 3 + (longK j).size + 1 ≤ _
      omega
    have hw : wrap64 ((j : Int) + 1) = ((j + 1 : Nat) : Int) := by rw [w64 (by omega) (by omega)]; omega
    refine Ev.step (f := fun k => sleuthlaw17_FileForms.l0 k a1 (⟨#[]⟩ : ByteArray) 1700 (longK (j + 1)) ((j + 1 : Nat) : Int)) (fun k => ?_) (ih (j + 1) (by omega))
    rw [sleuthlaw17_FileForms.l0, if_pos g1, if_pos g2, if_pos g3, hw, longK]
theorem forms17_j0 (a1 : Int) (b : List Nd) (hb : mayT b = false) : Ev (fun k => sleuthlaw17_FileForms.j0 k a1 b) true := by
  have e1 := text_ev b
  have hT : textS b = (⟨#[]⟩, 1700) := by unfold textS; rw [if_neg (by rw [hb]; decide)]
  rw [hT] at e1
  refine Ev.step (f := fun k => (file_Text.f k b).bind fun bt367 => (sleuthlaw17_FileForms.l0 k a1 bt367.1 bt367.2 (⟨#[49]⟩ : ByteArray) 0)) (fun k => by rw [sleuthlaw17_FileForms.j0]) ?_
  exact Ev.bind e1 (forms17_l0 a1 250 0 rfl)
theorem fileForms_pure (a0 a1 : Int) (h0 : (Lit.int .i64 a0).wf = true) (h1 : (Lit.int .i64 a1).wf = true) : ∃ k, sleuthlaw17_FileForms.f k a0 a1 = some true := by
  refine Ev.rounds (g := fun k => sleuthlaw17_FileForms.f k a0 a1) ?_
  unfold sleuthlaw17_FileForms.f
  refine Ev.bind awake17_ev ?_
  refine evp rfl ?_
  refine Ev.bind (show Ev (fun _ => sleuthlaw17_some.f) some17 from by rw [some17_eq]; exact Ev.now _) ?_
  by_cases c0 : Go.bits .and .i64 a0 3 = 0
  · refine evp c0 ?_
    exact forms17_j0 a1 [] (by decide)
  refine evn c0 ?_
  by_cases c1 : Go.bits .and .i64 a0 3 = 1
  · refine evp c1 (evp (by decide) ?_)
    exact forms17_j0 a1 _ (by kernel_rfl)
  refine evn c1 ?_
  by_cases c2 : Go.bits .and .i64 a0 3 = 2
  · refine evp c2 (evp (by decide) ?_)
    exact forms17_j0 a1 _ (by kernel_rfl)
  refine evn c2 ?_
  obtain ⟨b0, b1⟩ := and_rangeF a1 3 (by decide)
  have b0' : 0 ≤ Go.bits .and .i64 a1 3 := b0
  have b1' : Go.bits .and .i64 a1 3 ≤ 3 := b1
  obtain ⟨y, hy⟩ : ∃ y : Int, Go.bits .and .i64 a1 3 = y := ⟨_, rfl⟩
  rw [hy] at b0' b1' ⊢
  refine evp b0' (evp (show y < ((some17.length : Nat) : Int) by show y < 5; omega) ?_)
  have hc : y = 0 ∨ y = 1 ∨ y = 2 ∨ y = 3 := by omega
  rcases hc with rfl | rfl | rfl | rfl
  · exact forms17_j0 a1 _ (by kernel_rfl)
  · exact forms17_j0 a1 _ (by kernel_rfl)
  · exact forms17_j0 a1 _ (by kernel_rfl)
  · exact forms17_j0 a1 _ (by kernel_rfl)
end Go.Proofs.YtnhmmbgnaogokaaDoor.G
