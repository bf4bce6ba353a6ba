/- The laws BelowHoles, BelowParts, as plain statements about what the program and the document compute. -/
import Derived.Test.YtnoehmpmkfkgfaaDoorTCon
import Derived.Test.YtnoehmpmkfkgfaaDoorG18
import Derived.Test.YtnoehmpmkfkgfaaDoorG20
import Derived.Test.YtnoehmpmkfkgfaaDoorG21
import Derived.Test.YtnoehmpmkfkgfaaDoorG22
import Derived.Test.YtnoehmpmkfkgfaaDoorG23
import Derived.Test.YtnoehmpmkfkgfaaDoorG25
namespace Go.Proofs.YtnoehmpmkfkgfaaDoor.G
open Go.RowKit Go.Proofs.YtnoehmpmkfkgfaaDoorW.PrintWords Go.Proofs.YtnoehmpmkfkgfaaDoorW.PrintLast Go.Proofs.YtnoehmpmkfkgfaaDoorW.PrintMore
set_option linter.unusedVariables false
set_option linter.unusedSimpArgs false
theorem isS_eq (a b : ByteArray) : isS a b = if mayS a = true ∧ mayS b = true then (leT a b, 0) else (false, 300) := rfl
theorem toList_beq (a b : ByteArray) : (a.toList == b.toList) = decide (a = b) := by
  rw [Lib.toList_data, Lib.toList_data, Bool.eq_iff_iff, beq_iff_eq, decide_eq_true_iff]
  constructor
  · intro h; rw [← B_data a, ← B_data b, h]
  · intro h; rw [h]
theorem mayS_hole : mayS (⟨#[95]⟩ : ByteArray) = true := by kernel_rfl
theorem leT_hole (a : ByteArray) : leT (⟨#[95]⟩ : ByteArray) a = true := by
  rw [leT_eq, if_pos]
  kernel_rfl
theorem belowRow_pure : sleuthlaw3_BelowRow.Pure := by
  intro a0 a1 a2 _ _ _
  refine Ev.rounds (g := fun k => sleuthlaw3_BelowRow.f k a0 a1 a2) ?_
  unfold sleuthlaw3_BelowRow.f
  refine Ev.bind awake_ev ?_
  simp only [if_pos]
  refine Ev.bind (is_ev a0 a1) (Ev.bind (is_ev a1 a2) (Ev.bind (is_ev a0 a2) (Ev.bind (is_ev a1 a0) (Ev.bind (num_ev _) ?_))))
  have bad : ∀ x7 x9 x11 x13, ¬ (mayS a0 = true ∧ mayS a1 = true ∧ mayS a2 = true) → Ev (fun k => sleuthlaw3_BelowRow.j0 k a0 a1 a2 x7 x9 x11 x13 true) true := by
    intro x7 x9 x11 x13 hm
    refine Ev.step (f := fun k => (sleuthref1_TermMay.f k a0).bind fun t298 => (if t298 = true then ((sleuthref1_TermMay.f k a1).bind fun t299 => (if t299 = true then ((sleuthref1_TermMay.f k a2).bind fun t300 => (some (!t300))) else (some true))) else (some true))) (fun k => by simp only [sleuthlaw3_BelowRow.j0, if_pos]) ?_
    refine Ev.bind (refMay_ev a0) ?_
    by_cases c0 : mayS a0 = true
    · simp only [if_pos c0]
      refine Ev.bind (refMay_ev a1) ?_
      by_cases c1 : mayS a1 = true
      · simp only [if_pos c1]
        refine Ev.bind (refMay_ev a2) ?_
        have : mayS a2 = false := by
          cases h : mayS a2 with
          | false => rfl
          | true => exact absurd ⟨c0, c1, h⟩ hm
        rw [this]
        exact Ev.now _
      · simp only [if_neg c1]; exact Ev.now _
    · simp only [if_neg c0]; exact Ev.now _
  simp only [isS_eq]
  by_cases m0 : mayS a0 = true
  · by_cases m1 : mayS a1 = true
    · by_cases m2 : mayS a2 = true
      · simp only [m0, m1, m2, and_self, if_true]
        refine Ev.bind (num_ev _) ?_
        simp only [if_true]
        refine Ev.bind (num_ev _) ?_
        simp only [if_true]
        refine Ev.bind (num_ev _) ?_
        refine Ev.step (f := fun k => (below_Is.f k a0 a0).bind fun bt301 => ((below_Is.f k (⟨#[95]⟩ : ByteArray) a0).bind fun bt303 => ((sleuthlaw0_Num.f bt301.2).bind fun t305 => (if t305 = 0 then (if bt301.1 = true then ((sleuthlaw0_Num.f bt303.2).bind fun t306 => (if t306 = 0 then (if bt303.1 = true then (if leT a0 a1 = true then (if leT a1 a2 = true then (if leT a0 a2 = true then (some (leT a1 a0 == (a0.toList == a1.toList))) else (some false)) else (some (leT a1 a0 == (a0.toList == a1.toList)))) else (some (false == (a0.toList == a1.toList)))) else (some false)) else (some false))) else (some false)) else (some false))))) (fun k => by simp only [sleuthlaw3_BelowRow.j0]; rfl) ?_
        refine Ev.bind (is_ev a0 a0) (Ev.bind (is_ev _ a0) (Ev.bind (num_ev _) ?_))
        simp only [isS_eq, m0, mayS_hole, and_self, if_true, leT_refl, leT_hole]
        refine Ev.bind (num_ev _) ?_
        simp only [if_true, toList_beq]
        by_cases c1 : leT a0 a1 = true
        · have e1 : leT a1 a0 = decide (a0 = a1) := by
            rw [Bool.eq_iff_iff, decide_eq_true_iff]
            constructor
            · intro h; exact leT_antisymm _ a0 a1 (Nat.lt_succ_self _) m0 m1 c1 h
            · intro h; rw [h]; exact leT_refl _
          simp only [if_pos c1, e1, beq_self_eq_true]
          by_cases c2 : leT a1 a2 = true
          · simp only [if_pos c2, if_pos (leT_trans _ a0 a1 a2 (Nat.lt_succ_self _) c1 c2)]
            exact Ev.now _
          · simp only [if_neg c2]; exact Ev.now _
        · have e1 : decide (a0 = a1) = false := by
            rw [decide_eq_false_iff_not]
            intro h; apply c1; rw [h]; exact leT_refl _
          simp only [if_neg c1, e1]
          exact Ev.now _
      · simp only [m0, m1, m2, and_self, and_false, if_true, if_false]
        refine Ev.bind (num_ev _) ?_
        exact bad _ _ _ _ (fun h => m2 h.2.2)
    · simp only [m0, m1, and_self, and_false, false_and, if_true, if_false, show ¬ ((300 : Int) = 0) by decide]
      exact bad _ _ _ _ (fun h => m1 h.2.1)
  · simp only [m0, and_self, and_false, false_and, if_true, if_false, show ¬ ((300 : Int) = 0) by decide]
    exact bad _ _ _ _ (fun h => m0 h.1)

/-! the document's Make of a constructor -/
theorem dec_all : ((List.range 100).all fun i => decide (sleuthref0_Decimal.f 8 (i : Int) = some (B (itoaK (i : Int))))) = true := by kernel_rfl
theorem dec_ev (x : Int) (h0 : 0 ≤ x) (h1 : x ≤ 99) : Ev (fun k => sleuthref0_Decimal.f k x) (B (itoaK x)) := by
  have h := of_decide_eq_true (List.all_eq_true.1 dec_all x.toNat (List.mem_range.2 (by omega)))
  rw [show ((x.toNat : Nat) : Int) = x by omega] at h
  exact Ev.of (fun j => sleuthref0_Decimal.mono _ j) h
theorem list_app (s t : ByteArray) : (s ++ t).data.toList = s.data.toList ++ t.data.toList := by rw [ByteArray.data_append, Array.toList_append]
theorem ext_list {s t : ByteArray} (h : s.data.toList = t.data.toList) : s = t := by rw [← B_data s, ← B_data t, h]
def tailJ : List ByteArray → List UInt8
  | [] => []
  | k :: ks => 32 :: (k.data.toList ++ tailJ ks)
theorem joinK_tail (k : ByteArray) : ∀ ks : List ByteArray, joinK (k :: ks) = k.data.toList ++ tailJ ks
  | [] => by simp [joinK, tailJ]
  | a :: ks => by rw [joinK_cons k (by simp), joinK_tail a ks, tailJ]
theorem B_app_data (s : ByteArray) (l : List UInt8) : s ++ B l = B (s.data.toList ++ l) := by
  conv => lhs; rw [← B_data s]
  exact B_append _ _
theorem join_l0 (l : List ByteArray) (h3 : l.length ≤ 3) (hs : ∀ x ∈ l, x.size ≤ 140737488351232) : ∀ (n i : Nat) (acc : ByteArray), i + n = l.length → acc.size ≤ i * 140737488351233 →
    Ev (fun k => sleuthref1_Join.l0 k l acc (i : Int)) (acc ++ B (if i = 0 then joinK l else tailJ (l.drop i))) := by
  intro n
  induction n with
  | zero =>
    intro i acc hi ha
    refine Ev.step (f := fun _ => some acc) (fun k => ?_) ?_
    · simp only [sleuthref1_Join.l0]
      rw [if_neg (by omega)]
    · have : (if i = 0 then joinK l else tailJ (l.drop i)) = [] := by
        by_cases c : i = 0
        · rw [if_pos c, List.length_eq_zero_iff.1 (show l.length = 0 by omega)]; rfl
        · rw [if_neg c, List.drop_eq_nil_of_le (by omega)]; rfl
      rw [this, B_app_data, List.append_nil, B_data]
      exact Ev.now _
  | succ n ih =>
    intro i acc hi ha
    have hlt : i < l.length := by omega
    have hx := hs l[i] (List.getElem_mem hlt)
    have hw : wrap64 ((i : Int) + 1) = ((i + 1 : Nat) : Int) := by rw [w64 (by omega) (by omega)]; omega
    have hdrop : l.drop i = l[i] :: l.drop (i + 1) := List.drop_eq_getElem_cons hlt
    by_cases c : i = 0
    · subst c
      have e := ih 1 (acc ++ l[0]) (by omega) (by rw [ByteArray.size_append]; omega)
      refine Ev.step (f := fun k => sleuthref1_Join.l0 k l (acc ++ l[0]) ((1 : Nat) : Int)) (fun k => ?_) ?_
      · simp only [sleuthref1_Join.l0]
        rw [if_pos (by omega), if_neg (by omega), if_pos (by omega), rdOf_get l 0 hlt, if_pos (by omega), hw]
      · rw [if_neg (by omega)] at e
        rw [if_pos rfl]
        have e2 : acc ++ l[0] ++ B (tailJ (l.drop 1)) = acc ++ B (joinK l) := by
          have : joinK l = l[0].data.toList ++ tailJ (l.drop 1) := by
            rw [List.drop_zero] at hdrop
            conv => lhs; rw [hdrop]
            exact joinK_tail _ _
          apply ext_list
          simp only [list_app, B_list, this, List.append_assoc]
        rw [e2] at e
        exact e
    · have e := ih (i + 1) (acc ++ (⟨#[32]⟩ : ByteArray) ++ l[i]) (by omega) (by rw [ByteArray.size_append, ByteArray.size_append]; show acc.size + 1 + _ ≤ _; rw [Nat.add_mul]; omega)
      have hbig : i * 140737488351233 ≤ 3 * 140737488351233 := Nat.mul_le_mul_right _ (by omega)
      refine Ev.step (f := fun k => sleuthref1_Join.l0 k l (acc ++ (⟨#[32]⟩ : ByteArray) ++ l[i]) ((i + 1 : Nat) : Int)) (fun k => ?_) ?_
      · simp only [sleuthref1_Join.l0]
        rw [if_pos (by omega), if_pos (by omega), if_pos (by omega), if_pos (by omega), rdOf_get l i hlt, if_pos (by rw [ByteArray.size_append]; show acc.size + 1 + _ ≤ _; omega), hw]
      · rw [if_neg (by omega)] at e
        rw [if_neg c, hdrop, tailJ]
        have e2 : acc ++ (⟨#[32]⟩ : ByteArray) ++ l[i] ++ B (tailJ (l.drop (i + 1))) = acc ++ B (32 :: (l[i].data.toList ++ tailJ (l.drop (i + 1)))) := by
          apply ext_list
          have : (⟨#[32]⟩ : ByteArray).data.toList = [32] := rfl
          simp only [list_app, B_list, this, List.append_assoc, List.singleton_append, List.cons_append, List.nil_append]
        rw [e2] at e
        exact e
theorem B_nil_app (l : List UInt8) : (⟨#[]⟩ : ByteArray) ++ B l = B l := by rw [B_app_data]; rfl
theorem join_ev (l : List ByteArray) (h3 : l.length ≤ 3) (hs : ∀ x ∈ l, x.size ≤ 140737488351232) : Ev (fun k => sleuthref1_Join.f k l) (B (joinK l)) := by
  have e := join_l0 l h3 hs l.length 0 (⟨#[]⟩ : ByteArray) (by omega) (Nat.zero_le _)
  rw [if_pos rfl, B_nil_app] at e
  exact e
theorem same_l0 (xs ys : List ByteArray) (hl : xs.length = ys.length) (h3 : xs.length ≤ 9223372036854775806) : ∀ (n i : Nat), i + n = xs.length → Ev (fun k => sleuthref1_same.l0 k xs ys (i : Int)) (decide (xs.drop i = ys.drop i)) := by
  intro n
  induction n with
  | zero =>
    intro i hi
    refine Ev.step (f := fun _ => some true) (fun k => ?_) ?_
    · simp only [sleuthref1_same.l0]
      rw [if_neg (by omega)]
    · rw [List.drop_eq_nil_of_le (by omega), List.drop_eq_nil_of_le (by omega)]; exact Ev.now _
  | succ n ih =>
    intro i hi
    have h1 : i < xs.length := by omega
    have h2 : i < ys.length := by omega
    have hw := Aside0.mk (show wrap64 ((i : Int) + 1) = ((i + 1 : Nat) : Int) by rw [w64 (by omega) (by omega)]; omega)
    rw [List.drop_eq_getElem_cons h1, List.drop_eq_getElem_cons h2]
    refine Ev.step (f := fun k => if xs[i].toList = ys[i].toList then sleuthref1_same.l0 k xs ys ((i + 1 : Nat) : Int) else some false) (fun k => ?_) ?_
    · simp only [sleuthref1_same.l0]
      rw [if_pos (by omega), if_pos (by omega), if_pos (by omega), rdOf_get xs i h1, rdOf_get ys i h2, hw.out]
    · have e : (xs[i].toList = ys[i].toList) ↔ xs[i] = ys[i] := by
        have := toList_beq xs[i] ys[i]
        rw [Bool.eq_iff_iff, beq_iff_eq, decide_eq_true_iff] at this
        exact this
      by_cases c : xs[i].toList = ys[i].toList
      · simp only [if_pos c]
        have := ih (i + 1) (by omega)
        have e2 : decide (xs[i] :: xs.drop (i + 1) = ys[i] :: ys.drop (i + 1)) = decide (xs.drop (i + 1) = ys.drop (i + 1)) := by
          rw [decide_eq_decide, List.cons.injEq]
          exact ⟨fun h => h.2, fun h => ⟨e.1 c, h⟩⟩
        rw [e2]; exact this
      · simp only [if_neg c]
        have e2 : decide (xs[i] :: xs.drop (i + 1) = ys[i] :: ys.drop (i + 1)) = false := by
          rw [decide_eq_false_iff_not, List.cons.injEq]
          intro h; exact c (e.2 h.1)
        rw [e2]; exact Ev.now _
theorem same_ev (xs ys : List ByteArray) (h3 : xs.length ≤ 9223372036854775806) : Ev (fun k => sleuthref1_same.f k xs ys) (decide (xs = ys)) := by
  unfold sleuthref1_same.f
  by_cases c : xs.length = ys.length
  · simp only [if_pos (show (xs.length : Int) = (ys.length : Int) by omega)]
    have := same_l0 xs ys c h3 xs.length 0 (by omega)
    simpa using this
  · simp only [if_neg (show ¬ (xs.length : Int) = (ys.length : Int) by omega)]
    rw [show decide (xs = ys) = false from decide_eq_false (fun h => c (by rw [h]))]
    exact Ev.now _
def makeS (x : Int) (ks : List ByteArray) : ByteArray × Int := if ks.length ≤ 3 ∧ cutS (B (conL x ks)) = (2, x, ks, 0) then (B (conL x ks), 0) else ((⟨#[]⟩ : ByteArray), 200)
theorem itoaK_99 (x : Int) (h0 : 0 ≤ x) (h1 : x ≤ 99) : (itoaK x).length ≤ 6 := by
  unfold itoaK
  rw [if_neg (by omega)]
  exact (digK_20 x.toNat (by omega)).2.1
theorem joinK_size (l : List ByteArray) (h3 : l.length ≤ 3) (hs : ∀ x ∈ l, x.size ≤ 140737488351232) : (joinK l).length ≤ 3 * 140737488351233 := by
  have : ∀ ks : List ByteArray, (∀ x ∈ ks, x.size ≤ 140737488351232) → (joinK ks).length ≤ ks.length * 140737488351233 := by
    intro ks
    induction ks with
    | nil => intro _; exact Nat.zero_le _
    | cons k ks ih =>
      intro h
      have hk := h k (by simp)
      rw [Lib.size_eq] at hk
      by_cases c : ks = []
      · subst c; show k.data.toList.length ≤ _; simp only [List.length_cons, List.length_nil]; omega
      · have := ih (fun x hx => h x (by simp [hx]))
        rw [joinK_cons _ c, List.length_append, List.length_cons, List.length_cons, Nat.add_mul]; omega
  exact Nat.le_trans (this l hs) (Nat.mul_le_mul_right _ h3)
theorem make_ev (x : Int) (h0 : 0 ≤ x) (h1 : x ≤ 99) (ks : List ByteArray) (hl : ks.length ≤ 9223372036854775806) (hs : ∀ k ∈ ks, k.size ≤ 140737488351232) : Ev (fun k => sleuthref1_Make.f k 2 x ks) (makeS x ks) := by
  unfold sleuthref1_Make.f
  by_cases c3 : ks.length ≤ 3
  · simp only [if_neg (show ¬ ((ks.length : Int) > 3) by omega)]
    have hup : sleuthref1_upTo.f x (-32768) 32767 = some true := by
      unfold sleuthref1_upTo.f
      rw [if_pos (by omega), decide_eq_true (by omega)]
    simp only [hup, Option.bind_some, Bool.not_true]
    have hj : Ev (fun k => sleuthref1_Make.j1 k 2 x ks (B (conL x ks))) (makeS x ks) := by
      refine Ev.step (f := fun k => (sleuthref1_Cut.f k (B (conL x ks))).bind fun bt347 => (if bt347.2.2.2 = 0 then (if bt347.1 = 2 then (if bt347.2.1 = x then ((sleuthref1_same.f k bt347.2.2.1 ks).bind fun t353 => (if t353 = true then (some (B (conL x ks), 0)) else (some ((⟨#[]⟩ : ByteArray), 200)))) else (some ((⟨#[]⟩ : ByteArray), 200))) else (some ((⟨#[]⟩ : ByteArray), 200))) else (some ((⟨#[]⟩ : ByteArray), 200)))) (fun k => by simp only [sleuthref1_Make.j1]) ?_
      refine Ev.bind (refCut_ev _) ?_
      have hk3 := (cutS_kids (B (conL x ks))).1
      unfold makeS
      generalize cutS (B (conL x ks)) = p at hk3 ⊢
      by_cases a1 : p.2.2.2 = 0
      · simp only [if_pos a1]
        by_cases a2 : p.1 = 2
        · simp only [if_pos a2]
          by_cases a3 : p.2.1 = x
          · simp only [if_pos a3]
            refine Ev.bind (same_ev _ _ (by omega)) ?_
            by_cases a4 : p.2.2.1 = ks
            · simp only [decide_eq_true a4, if_pos]
              rw [if_pos ⟨c3, by rw [← a1, ← a2, ← a3, ← a4]⟩]
              exact Ev.now _
            · simp only [decide_eq_false a4, if_neg (show ¬ (false = true) by decide)]
              rw [if_neg (fun h => a4 (by rw [h.2]))]
              exact Ev.now _
          · simp only [if_neg a3]
            rw [if_neg (fun h => a3 (by rw [h.2]))]
            exact Ev.now _
        · simp only [if_neg a2]
          rw [if_neg (fun h => a2 (by rw [h.2]))]
          exact Ev.now _
      · simp only [if_neg a1]
        rw [if_neg (fun h => a1 (by rw [h.2]))]
        exact Ev.now _
    have hi := itoaK_99 x h0 h1
    have hd := dec_ev x h0 h1
    refine Ev.step (f := fun k => (sleuthref0_Decimal.f k x).bind fun t345 => (if 1 + t345.size ≤ 9223372036854775807 then (if (ks.length : Int) > 0 then (if ((⟨#[64]⟩ : ByteArray) ++ t345).size + 1 ≤ 9223372036854775807 then ((sleuthref1_Join.f k ks).bind fun t346 => (if (((⟨#[64]⟩ : ByteArray) ++ t345) ++ (⟨#[40]⟩ : ByteArray)).size + t346.size ≤ 9223372036854775807 then (if ((((⟨#[64]⟩ : ByteArray) ++ t345) ++ (⟨#[40]⟩ : ByteArray)) ++ t346).size + 1 ≤ 9223372036854775807 then (sleuthref1_Make.j1 k 2 x ks (((((⟨#[64]⟩ : ByteArray) ++ t345) ++ (⟨#[40]⟩ : ByteArray)) ++ t346) ++ (⟨#[41]⟩ : ByteArray))) else (none)) else (none))) else (none)) else (sleuthref1_Make.j1 k 2 x ks ((⟨#[64]⟩ : ByteArray) ++ t345))) else (none))) (fun k => by simp only [sleuthref1_Make.j0]; rfl) ?_
    refine Ev.bind hd ?_
    have g1 : 1 + (B (itoaK x)).size ≤ 9223372036854775807 := by rw [B_size]; omega
    simp only [if_pos g1]
    have e1 : (⟨#[64]⟩ : ByteArray) ++ B (itoaK x) = B (64 :: itoaK x) := by rw [B_app_data]; rfl
    simp only [e1]
    by_cases c0 : ks = []
    · simp only [if_neg (show ¬ ((ks.length : Int) > 0) by rw [c0]; simp)]
      have e2 : conL x ks = 64 :: itoaK x := by unfold conL; rw [if_pos c0, List.append_nil]
      rw [e2] at hj
      exact hj
    · have hl0 : ks.length ≠ 0 := fun h => c0 (List.length_eq_zero_iff.1 h)
      simp only [if_pos (show ((ks.length : Int) > 0) by omega)]
      have g2 : (B (64 :: itoaK x)).size + 1 ≤ 9223372036854775807 := by rw [B_size, List.length_cons]; omega
      simp only [if_pos g2]
      refine Ev.bind (join_ev ks c3 hs) ?_
      have hjs := joinK_size ks c3 hs
      have e2 : B (64 :: itoaK x) ++ (⟨#[40]⟩ : ByteArray) = B (64 :: (itoaK x ++ [40])) := B_append _ _
      simp only [e2]
      have g3 : (B (64 :: (itoaK x ++ [40]))).size + (B (joinK ks)).size ≤ 9223372036854775807 := by rw [B_size, B_size]; simp only [List.length_cons, List.length_append, List.length_nil]; omega
      simp only [if_pos g3, B_append]
      have g4 : (B ((64 :: (itoaK x ++ [40])) ++ joinK ks)).size + 1 ≤ 9223372036854775807 := by rw [B_size]; simp only [List.length_cons, List.length_append, List.length_nil]; omega
      simp only [if_pos g4]
      have e3 : conL x ks = (64 :: (itoaK x ++ [40])) ++ joinK ks ++ [41] := by unfold conL; rw [if_neg c0]; simp
      rw [e3] at hj
      exact hj
  · simp only [if_pos (show ((ks.length : Int) > 3) by omega)]
    refine Ev.step (f := fun _ => some ((⟨#[]⟩ : ByteArray), 200)) (fun k => by simp only [sleuthref1_Make.j0, if_pos]) ?_
    unfold makeS
    rw [if_neg (fun h => c3 h.1)]
    exact Ev.now _
theorem makeS_ok {x : Int} {ks : List ByteArray} (h : (makeS x ks).2 = 0) : makeS x ks = (B (conL x ks), 0) ∧ ks.length ≤ 3 ∧ cutS (B (conL x ks)) = (2, x, ks, 0) ∧ mayS (B (conL x ks)) = true ∧ ∀ k ∈ ks, mayS k = true := by
  unfold makeS at h ⊢
  by_cases c : ks.length ≤ 3 ∧ cutS (B (conL x ks)) = (2, x, ks, 0)
  · rw [if_pos c]
    have hm : mayS (B (conL x ks)) = true := by unfold mayS; rw [c.2]; rfl
    refine ⟨rfl, c.1, c.2, hm, ?_⟩
    have := cut_shape hm
    rw [c.2] at this
    rcases this with g | g | g | g
    · exact absurd (show (2 : Int) = 0 from g.1) (by decide)
    · exact absurd (show (2 : Int) = 3 from g.1) (by decide)
    · exact absurd (show (2 : Int) = 1 from g.1) (by decide)
    · exact g.2.2.2.2.2
  · rw [if_neg c] at h; exact absurd h (by decide)
theorem makeS_of {x : Int} {ks : List ByteArray} (h0 : 0 ≤ x) (h1 : x ≤ 99) (h3 : ks.length ≤ 3) (hk : ∀ k ∈ ks, mayS k = true) (hl : (conL x ks).length ≤ 1024) : makeS x ks = (B (conL x ks), 0) := by
  unfold makeS
  rw [if_pos ⟨h3, cut_con h0 h1 h3 hk hl⟩]
theorem mod100 (x : Int) : 0 ≤ wrap64 (Int.tmod (IntKind.u64.wrap x) 100) ∧ wrap64 (Int.tmod (IntKind.u64.wrap x) 100) ≤ 99 := by
  have h0 : 0 ≤ IntKind.u64.wrap x ∧ IntKind.u64.wrap x < 18446744073709551616 := by
    show 0 ≤ x % 18446744073709551616 ∧ x % 18446744073709551616 < 18446744073709551616
    omega
  generalize IntKind.u64.wrap x = y at h0
  rw [Int.tmod_eq_emod_of_nonneg h0.1, w64 (by omega) (by omega)]
  omega
theorem modLen (x : Int) (n : Nat) (hn : 0 < n) (hb : n ≤ 9223372036854775807) : ∃ i : Nat, i < n ∧ IntKind.u64.wrap (n : Int) ≠ 0 ∧ wrap64 (Int.tmod (IntKind.u64.wrap x) (IntKind.u64.wrap (n : Int))) = (i : Int) := by
  have h0 : 0 ≤ IntKind.u64.wrap x ∧ IntKind.u64.wrap x < 18446744073709551616 := by
    show 0 ≤ x % 18446744073709551616 ∧ x % 18446744073709551616 < 18446744073709551616
    omega
  have hn' : IntKind.u64.wrap (n : Int) = n := by
    show (n : Int) % 18446744073709551616 = n
    omega
  rw [hn']
  generalize IntKind.u64.wrap x = y at h0
  have hm : y % (n : Int) < n := Int.emod_lt_of_pos _ (by omega)
  have hm0 : 0 ≤ y % (n : Int) := Int.emod_nonneg _ (by omega)
  refine ⟨(y % (n : Int)).toNat, by omega, by omega, ?_⟩
  rw [Int.tmod_eq_emod_of_nonneg h0.1, w64 (by omega) (by omega)]
  omega
theorem allB_set (f : ByteArray → ByteArray → Bool) (hf : ∀ a, f a a = true) (z : ByteArray) : ∀ (xs : List ByteArray) (k : Nat) (h : k < xs.length), allB f xs (xs.set k z) = f xs[k] z ∧ allB f (xs.set k z) xs = f z xs[k]
  | [], k, h => absurd h (by simp)
  | x :: xs, 0, h => by
    have e := allB_refl f xs (fun y _ => hf y)
    simp [allB, e]
  | x :: xs, k + 1, h => by
    have := allB_set f hf z xs k (by simpa using h)
    simp [allB, hf, this.1, this.2]
theorem joinK_set : ∀ (xs : List ByteArray) (k : Nat) (z : ByteArray) (h : k < xs.length), z.size ≤ xs[k].size → (joinK (xs.set k z)).length ≤ (joinK xs).length
  | [], k, z, h, _ => absurd h (by simp)
  | [x], 0, z, h, hz => by
    have hz : z.size ≤ x.size := hz
    rw [Lib.size_eq, Lib.size_eq] at hz
    exact hz
  | [x], k + 1, z, h, _ => absurd h (by simp)
  | x :: y :: xs, 0, z, h, hz => by
    have hz : z.size ≤ x.size := hz
    rw [Lib.size_eq, Lib.size_eq] at hz
    show (joinK (z :: y :: xs)).length ≤ _
    rw [joinK_cons z (ks := y :: xs) (by simp), joinK_cons x (ks := y :: xs) (by simp), List.length_append, List.length_append]; omega
  | x :: y :: xs, k + 1, z, h, hz => by
    have := joinK_set (y :: xs) k z (by simpa using h) hz
    show (joinK (x :: (y :: xs).set k z)).length ≤ _
    rw [joinK_cons x (ks := (y :: xs).set k z) (by cases k <;> simp), joinK_cons x (ks := y :: xs) (by simp), List.length_append, List.length_append, List.length_cons, List.length_cons]; omega
theorem may_size {k : ByteArray} (h : mayS k = true) : 1 ≤ k.size := by
  rcases Nat.eq_zero_or_pos k.size with c | c
  · have hk := List.length_eq_zero_iff.1 (show k.data.toList.length = 0 by rw [← Lib.size_eq]; exact c)
    have : k = ⟨#[]⟩ := by rw [← B_data k, hk]
    rw [this] at h
    exact absurd h (by decide +kernel)
  · exact c
theorem leT_con {x : Int} {xs ys : List ByteArray} (hx : cutS (B (conL x xs)) = (2, x, xs, 0)) (hy : cutS (B (conL x ys)) = (2, x, ys, 0)) : leT (B (conL x xs)) (B (conL x ys)) = if xs.length = ys.length then allB leT xs ys else false := by
  rw [leT_eq, hx, hy, if_neg (show ¬ ((2 : Int) = 0) by decide)]
  by_cases c : xs.length = ys.length
  · rw [if_pos c, if_pos ⟨rfl, rfl, c⟩]
  · rw [if_neg c, if_neg (fun h => c h.2.2)]
theorem belowHoles_pure (a0 : Int) (l1 : List ByteArray) (a2 : Int) (_ : (Lit.int .i64 a0).wf = true) (hl : l1.length * 16 ≤ 140737488351232 ∧ ∀ x ∈ l1, x.size ≤ 140737488351232) (_ : (Lit.int .i64 a2).wf = true) :
    ∃ k, sleuthlaw3_BelowHoles.f k a0 l1 a2 = some true := by
  refine Ev.rounds (g := fun k => sleuthlaw3_BelowHoles.f k a0 l1 a2) ?_
  unfold sleuthlaw3_BelowHoles.f
  refine Ev.bind awake_ev ?_
  simp only [if_pos]
  obtain ⟨t0, t1⟩ := mod100 a0
  obtain ⟨t, ht⟩ : ∃ t, wrap64 (Int.tmod (IntKind.u64.wrap a0) 100) = t := ⟨_, rfl⟩
  rw [ht] at t0 t1
  simp only [ht]
  refine Ev.bind (make_ev t t0 t1 l1 (by omega) hl.2) ?_
  have bad : Ev (fun k => sleuthlaw3_BelowHoles.j0 k a0 l1 a2 (makeS t l1).1 true) true := Ev.step (f := fun _ => some true) (fun k => by simp only [sleuthlaw3_BelowHoles.j0, if_pos]) (Ev.now _)
  by_cases c : (makeS t l1).2 = 0
  · simp only [if_pos c]
    obtain ⟨m1, m2, m3, m4, m5⟩ := makeS_ok c
    by_cases c0 : l1.length = 0
    · simp only [show ((l1.length : Int) == 0) = true by rw [beq_iff_eq]; omega]
      exact bad
    · simp only [show ((l1.length : Int) == 0) = false by rw [beq_eq_false_iff_ne]; omega]
      obtain ⟨i, hi, hw, e⟩ := modLen a2 l1.length (by omega) (by omega)
      have hset : makeS t (l1.set i (⟨#[95]⟩ : ByteArray)) = (B (conL t (l1.set i (⟨#[95]⟩ : ByteArray))), 0) := by
        have hmem : ∀ k ∈ l1.set i (⟨#[95]⟩ : ByteArray), mayS k = true := by
          intro k hk
          rcases List.mem_or_eq_of_mem_set hk with h | h
          · exact m5 k h
          · rw [h]; exact mayS_hole
        refine makeS_of t0 t1 (by rw [List.length_set]; exact m2) hmem ?_
        have h1 := joinK_set l1 i (⟨#[95]⟩ : ByteArray) hi (may_size (m5 _ (List.getElem_mem hi)))
        have h2 := (mayS_ok m4).1
        rw [B_size] at h2
        have n1 : l1 ≠ [] := fun h => c0 (by rw [h]; rfl)
        have n2 : l1.set i (⟨#[95]⟩ : ByteArray) ≠ [] := fun h => c0 (by have := congrArg List.length h; simpa using this)
        unfold conL at h2 ⊢
        rw [if_neg n1] at h2
        rw [if_neg n2]
        simp only [List.length_cons, List.length_append, List.length_nil] at h2 ⊢
        omega
      have c2 : (makeS t (l1.set i (⟨#[95]⟩ : ByteArray))).2 = 0 := by rw [hset]
      obtain ⟨s1, s2, s3, s4, s5⟩ := makeS_ok c2
      have hB := Aside0.mk hi
      refine Ev.step (f := fun k => (sleuthref1_Make.f k 2 t (l1.set i (⟨#[95]⟩ : ByteArray))).bind fun bt364 => ((below_Is.f k bt364.1 (makeS t l1).1).bind fun bt366 => ((below_Is.f k (makeS t l1).1 bt364.1).bind fun bt368 => (if bt364.2 = 0 then ((sleuthlaw0_Num.f bt366.2).bind fun t370 => (if t370 = 0 then (if bt366.1 = true then ((sleuthlaw0_Num.f bt368.2).bind fun t371 => (if t371 = 0 then (some (bt368.1 == ((l1[i]'hB.out).toList == ([95] : List UInt8)))) else (some false))) else (some false)) else (some false))) else (some false))))) (fun k => ?_) ?_
      · simp only [sleuthlaw3_BelowHoles.j0, ht, e, Option.bind_some, List.nil_append, List.length_nil]
        rw [if_neg (by decide), if_neg hw, if_pos (by omega), if_pos (by omega), if_pos (by omega), rdOf_get l1 i hi]
        simp only [if_pos (show (i : Int) < (l1.length : Int) by omega), show ((i : Int)).toNat = i from rfl]
      · refine Ev.bind (make_ev t t0 t1 _ (by rw [List.length_set]; omega) (fun k hk => ?_)) ?_
        · rcases List.mem_or_eq_of_mem_set hk with h | h
          · exact hl.2 k h
          · rw [h]; decide
        rw [m1, s1]
        refine Ev.bind (is_ev _ _) (Ev.bind (is_ev _ _) ?_)
        simp only [isS_eq, m4, s4, and_self, if_true]
        refine Ev.bind (num_ev _) ?_
        have e1 := allB_set leT leT_refl (⟨#[95]⟩ : ByteArray) l1 i hi
        have f1 := leT_con s3 m3
        have f2 := leT_con m3 s3
        rw [if_pos (by rw [List.length_set]), e1.2, leT_hole] at f1
        rw [if_pos (by rw [List.length_set]), e1.1] at f2
        rw [f1, f2]
        simp only [if_true]
        refine Ev.bind (num_ev _) ?_
        simp only [if_true]
        have e2 : leT l1[i] (⟨#[95]⟩ : ByteArray) = ((l1[i]).toList == ([95] : List UInt8)) := by
          have : ((l1[i]).toList == ([95] : List UInt8)) = ((l1[i]).toList == (⟨#[95]⟩ : ByteArray).toList) := by rw [Lib.toList_data (⟨#[95]⟩ : ByteArray)]
          rw [this, toList_beq, Bool.eq_iff_iff, decide_eq_true_iff]
          constructor
          · intro h; exact leT_antisymm _ _ _ (Nat.lt_succ_self _) (m5 _ (List.getElem_mem hi)) mayS_hole h (leT_hole _)
          · intro h; rw [h]; exact leT_refl _
        rw [e2, beq_self_eq_true]
        exact Ev.now _
  · simp only [if_neg c]; exact bad
theorem parts_l0 (xs ys : List ByteArray) (hl : xs.length = ys.length) (h3 : xs.length ≤ 3) (ha : ∀ k ∈ xs, mayS k = true) (hb : ∀ k ∈ ys, mayS k = true) (x : Bool) : ∀ (n i : Nat), i + n = xs.length →
    Ev (fun k => sleuthlaw3_BelowParts.l0 k xs ys x 0 true (i : Int)) (x == allB leT (xs.drop i) (ys.drop i)) := by
  have fin : ∀ (w : Bool) (i : Int), Ev (fun k => sleuthlaw3_BelowParts.j2 k xs ys x 0 w i false) (x == w) := by
    intro w i
    refine Ev.step (f := fun k => (sleuthlaw0_Num.f 0).bind fun t393 => (if t393 = 0 then (some (x == w)) else (some false))) (fun k => by simp only [sleuthlaw3_BelowParts.j2, if_neg (show ¬ (false = true) by decide)]) ?_
    exact Ev.bind (num_ev _) (Ev.now _)
  have stop : ∀ (i : Int), Ev (fun k => sleuthlaw3_BelowParts.l0 k xs ys x 0 false i) (x == false) := by
    intro i
    by_cases c : i < (xs.length : Int)
    · exact Ev.step (f := fun k => sleuthlaw3_BelowParts.j2 k xs ys x 0 false i false) (fun k => by simp only [sleuthlaw3_BelowParts.l0, if_pos c]) (fin _ _)
    · exact Ev.step (f := fun k => sleuthlaw3_BelowParts.j2 k xs ys x 0 false i false) (fun k => by simp only [sleuthlaw3_BelowParts.l0, if_neg c]) (fin _ _)
  intro n
  induction n with
  | zero =>
    intro i hi
    rw [List.drop_eq_nil_of_le (show xs.length ≤ i by omega)]
    exact Ev.step (f := fun k => sleuthlaw3_BelowParts.j2 k xs ys x 0 true i false) (fun k => by simp only [sleuthlaw3_BelowParts.l0, if_neg (show ¬ ((i : Int) < (xs.length : Int)) by omega)]) (fin _ _)
  | succ n ih =>
    intro i hi
    have h1 : i < xs.length := by omega
    have h2 : i < ys.length := by omega
    have hw := Aside0.mk (show wrap64 ((i : Int) + 1) = ((i + 1 : Nat) : Int) by rw [w64 (by omega) (by omega)]; omega)
    rw [List.drop_eq_getElem_cons h1, List.drop_eq_getElem_cons h2, allB]
    refine Ev.step (f := fun k => sleuthlaw3_BelowParts.j2 k xs ys x 0 true i true) (fun k => by simp only [sleuthlaw3_BelowParts.l0, if_pos (show ((i : Int) < (xs.length : Int)) by omega)]) ?_
    refine Ev.step (f := fun k => (below_Is.f k xs[i] ys[i]).bind fun bt396 => ((sleuthlaw0_Num.f bt396.2).bind fun t398 => (if t398 = 0 then (sleuthlaw3_BelowParts.l0 k xs ys x 0 bt396.1 ((i + 1 : Nat) : Int)) else (some false)))) (fun k => ?_) ?_
    · simp only [sleuthlaw3_BelowParts.j2, if_true]
      rw [if_pos (by omega), if_pos (by omega), if_pos (by omega), rdOf_get xs i h1, rdOf_get ys i h2, hw.out]
    · refine Ev.bind (is_ev _ _) ?_
      simp only [isS_eq, ha _ (List.getElem_mem h1), hb _ (List.getElem_mem h2), and_self, if_true]
      refine Ev.bind (num_ev _) ?_
      simp only [if_true]
      cases leT xs[i] ys[i] with
      | false => exact stop _
      | true => rw [Bool.true_and]; exact ih (i + 1) (by omega)
theorem belowParts_pure (a0 : Int) (l1 l2 : List ByteArray) (_ : (Lit.int .i64 a0).wf = true) (hl1 : l1.length * 16 ≤ 140737488351232 ∧ ∀ x ∈ l1, x.size ≤ 140737488351232) (hl2 : l2.length * 16 ≤ 140737488351232 ∧ ∀ x ∈ l2, x.size ≤ 140737488351232) :
    ∃ k, sleuthlaw3_BelowParts.f k a0 l1 l2 = some true := by
  refine Ev.rounds (g := fun k => sleuthlaw3_BelowParts.f k a0 l1 l2) ?_
  unfold sleuthlaw3_BelowParts.f
  refine Ev.bind awake_ev ?_
  simp only [if_pos]
  obtain ⟨t0, t1⟩ := mod100 a0
  obtain ⟨t, ht⟩ : ∃ t, wrap64 (Int.tmod (IntKind.u64.wrap a0) 100) = t := ⟨_, rfl⟩
  rw [ht] at t0 t1
  simp only [ht]
  refine Ev.bind (make_ev t t0 t1 l1 (by omega) hl1.2) (Ev.bind (make_ev t t0 t1 l2 (by omega) hl2.2) ?_)
  have bad : Ev (fun k => sleuthlaw3_BelowParts.j0 k l1 l2 (makeS t l1).1 (makeS t l2).1 true) true := Ev.step (f := fun _ => some true) (fun k => by simp only [sleuthlaw3_BelowParts.j0, if_pos]) (Ev.now _)
  by_cases c1 : (makeS t l1).2 = 0
  · simp only [if_pos c1]
    by_cases c2 : (makeS t l2).2 = 0
    · simp only [c2, show ((0 : Int) != 0) = false by decide]
      obtain ⟨m1, m2, m3, m4, m5⟩ := makeS_ok c1
      obtain ⟨s1, s2, s3, s4, s5⟩ := makeS_ok c2
      refine Ev.step (f := fun k => (below_Is.f k (makeS t l1).1 (makeS t l2).1).bind fun bt391 => (sleuthlaw3_BelowParts.l0 k l1 l2 bt391.1 bt391.2 ((l1.length : Int) == (l2.length : Int)) 0)) (fun k => by simp only [sleuthlaw3_BelowParts.j0, if_neg (show ¬ (false = true) by decide)]) ?_
      refine Ev.bind (is_ev _ _) ?_
      rw [m1, s1]
      simp only [isS_eq, m4, s4, and_self, if_true]
      rw [leT_con m3 s3]
      by_cases cl : l1.length = l2.length
      · rw [if_pos cl, show ((l1.length : Int) == (l2.length : Int)) = true by rw [beq_iff_eq]; omega]
        have := parts_l0 l1 l2 cl m2 m5 s5 (allB leT l1 l2) l1.length 0 (by omega)
        rw [List.drop_zero, List.drop_zero, beq_self_eq_true] at this
        exact this
      · rw [if_neg cl, show ((l1.length : Int) == (l2.length : Int)) = false by rw [beq_eq_false_iff_ne]; omega]
        have fin : Ev (fun k => sleuthlaw3_BelowParts.j2 k l1 l2 false 0 false 0 false) true := by
          refine Ev.step (f := fun k => (sleuthlaw0_Num.f 0).bind fun t393 => (if t393 = 0 then (some (false == false)) else (some false))) (fun k => by simp only [sleuthlaw3_BelowParts.j2, if_neg (show ¬ (false = true) by decide)]) ?_
          exact Ev.bind (num_ev _) (Ev.now _)
        by_cases c : (0 : Int) < (l1.length : Int)
        · exact Ev.step (f := fun k => sleuthlaw3_BelowParts.j2 k l1 l2 false 0 false 0 false) (fun k => by simp only [sleuthlaw3_BelowParts.l0, if_pos c]) fin
        · exact Ev.step (f := fun k => sleuthlaw3_BelowParts.j2 k l1 l2 false 0 false 0 false) (fun k => by simp only [sleuthlaw3_BelowParts.l0, if_neg c]) fin
    · simp only [show ((makeS t l2).2 != 0) = true by rw [bne_iff_ne]; exact c2]; exact bad
  · simp only [if_neg c1]; exact bad
end Go.Proofs.YtnoehmpmkfkgfaaDoor.G
