/- The law RecordUnlike of package record, as a plain statement about what the program computes. -/
import Derived.Test.YthoegphcmkejoaaDoorRecSizesL
import Derived.Test.YthoegphcmkejoaaDoorG20
namespace Go.Proofs.YthoegphcmkejoaaDoor.G
open Go.RowKit Go.Proofs.YthoegphcmkejoaaDoorW.PrintWords Go.Proofs.YthoegphcmkejoaaDoorW.PrintLast Go.Proofs.YthoegphcmkejoaaDoorW.PrintMore
set_option linter.unusedVariables false
set_option linter.unusedSimpArgs false
theorem rdS_get (l : List ByteArray) (i : Nat) (h : i < l.length) : rdOf ByteArray.empty l (i : Int) = l[i] := by
  show l.getD _ _ = _
  rw [Int.toNat_natCast, List.getD_eq_getElem?_getD, List.getElem?_eq_getElem h]; rfl
theorem sameTextsG_l0 (a b : List ByteArray) (hl : a.length = b.length) (ha : a.length ≤ 9223372036854775806) : ∀ (n i : Nat), i + n = a.length → Ev (fun k => sleuthlaw0_SameTexts.l0 k a b (i : Int)) (decide (a.drop i = b.drop i)) := by
  intro n
  induction n with
  | zero =>
    intro i hi
    rw [List.drop_eq_nil_of_le (by omega), List.drop_eq_nil_of_le (by omega), decide_eq_true rfl]
    refine Ev.step (f := fun _ => some true) (fun k => ?_) (Ev.now _)
    rw [sleuthlaw0_SameTexts.l0, if_neg (by omega)]
  | succ n ih =>
    intro i hi
    have h1 : i < a.length := by omega
    have h2 : i < b.length := by omega
    have hw : wrap64 ((i : Int) + 1) = ((i + 1 : Nat) : Int) := by rw [w64 (by omega) (by omega)]; omega
    have e : ∀ k, sleuthlaw0_SameTexts.l0 (k + 1) a b (i : Int) = if a[i] = b[i] then sleuthlaw0_SameTexts.l0 k a b ((i + 1 : Nat) : Int) else some false := fun k => by
      rw [sleuthlaw0_SameTexts.l0, if_pos (by omega), if_pos (by omega), if_pos (by omega), rdS_get a i h1, rdS_get b i h2, hw]
      simp only [toList_inj]
    rw [List.drop_eq_getElem_cons h1, List.drop_eq_getElem_cons h2]
    by_cases c : a[i] = b[i]
    · have := ih (i + 1) (by omega)
      refine Ev.step (f := fun k => sleuthlaw0_SameTexts.l0 k a b ((i + 1 : Nat) : Int)) (fun k => by rw [e, if_pos c]) ?_
      have d : decide (a[i] :: a.drop (i + 1) = b[i] :: b.drop (i + 1)) = decide (a.drop (i + 1) = b.drop (i + 1)) := decide_eq_decide.2 ⟨fun h => (List.cons.inj h).2, fun h => by rw [c, h]⟩
      rw [d]
      exact this
    · refine Ev.step (f := fun _ => some false) (fun k => by rw [e, if_neg c]) ?_
      have d : decide (a[i] :: a.drop (i + 1) = b[i] :: b.drop (i + 1)) = false := decide_eq_false (fun hh => c (List.cons.inj hh).1)
      rw [d]
      exact Ev.now _
theorem sameTextsG_ev (a b : List ByteArray) (ha : a.length ≤ 9223372036854775806) : Ev (fun k => sleuthlaw0_SameTexts.f k a b) (decide (a = b)) := by
  unfold sleuthlaw0_SameTexts.f
  by_cases c : a.length = b.length
  · simp only [if_pos (show (a.length : Int) = (b.length : Int) by omega)]
    exact sameTextsG_l0 a b c ha a.length 0 (by omega)
  · simp only [if_neg (show ¬ (a.length : Int) = (b.length : Int) by omega)]
    rw [decide_eq_false (fun h => c (by rw [h]))]
    exact Ev.now _
def sameS (x y : Nd) : Bool := decide (x.f0 = y.f0) && (decide (x.f1 = y.f1) && (decide (x.f2 = y.f2) && decide (x.f3 = y.f3)))
theorem sameS_iff (x y : Nd) : sameS x y = true ↔ x = y := by
  unfold sameS
  rw [Bool.and_eq_true, Bool.and_eq_true, Bool.and_eq_true, decide_eq_true_iff, decide_eq_true_iff, decide_eq_true_iff, decide_eq_true_iff]
  constructor
  · rintro ⟨h0, h1, h2, h3⟩
    cases x; cases y
    simp only at h0 h1 h2 h3
    subst h0 h1 h2 h3
    rfl
  · rintro rfl
    exact ⟨rfl, rfl, rfl, rfl⟩
theorem sameNodeG_ev (x y : Nd) (hx : x.f2.length ≤ 9223372036854775806) : Ev (fun k => sleuthlaw0_SameNode.f k x.f0 x.f1 x.f2 x.f3 y.f0 y.f1 y.f2 y.f3) (sameS x y) := by
  unfold sleuthlaw0_SameNode.f sameS
  by_cases c0 : x.f0 = y.f0
  · by_cases c1 : x.f1 = y.f1
    · simp only [if_pos c0, if_pos c1, decide_eq_true c0, decide_eq_true c1, Bool.true_and]
      refine Ev.bind (sameTextsG_ev _ _ hx) ?_
      by_cases c2 : x.f2 = y.f2
      · simp only [decide_eq_true c2, if_pos, Bool.true_and]
        have : (x.f3.toList == y.f3.toList) = decide (x.f3 = y.f3) := by
          rw [Bool.eq_iff_iff, beq_iff_eq, decide_eq_true_iff, toList_inj]
        rw [this]
        exact Ev.now _
      · simp only [decide_eq_false c2, if_neg Bool.false_ne_true, Bool.false_and]
        exact Ev.now _
    · simp only [if_pos c0, if_neg c1, decide_eq_false c1, Bool.false_and, Bool.and_false]
      exact Ev.now _
  · simp only [if_neg c0, decide_eq_false c0, Bool.false_and]
    exact Ev.now _
/-- no record's bytes are the beginning of another's -/
theorem recL_prefix {x y : Nd} (hx : recS x = true) (hy : recS y = true) (h : (recL x).take (min (recL x).length (recL y).length) = (recL y).take (min (recL x).length (recL y).length)) : x = y := by
  rcases Nat.le_total (recL x).length (recL y).length with c | c
  · rw [Nat.min_eq_left c, List.take_of_length_le (Nat.le_refl _)] at h
    have e : recL y = recL x ++ (recL y).drop (recL x).length := by rw [h, List.length_take, Nat.min_eq_left c, List.take_append_drop]
    have g := getP_rec y hy
    rw [e, getP_app x hx] at g
    exact g
  · rw [Nat.min_eq_right c, List.take_of_length_le (l := recL y) (Nat.le_refl _)] at h
    have e : recL x = recL y ++ (recL x).drop (recL y).length := by rw [← h, List.length_take, Nat.min_eq_left c, List.take_append_drop]
    have g := getP_rec x hx
    rw [e, getP_app y hy] at g
    exact g.symm
theorem unlike_same (x y : Nd) (hx : recS x = true) (hy : recS y = true) : ((((recOf x).extract 0 (min (recOf x).size (recOf y).size)).toList == ((recOf y).extract 0 (min (recOf x).size (recOf y).size)).toList) == sameS x y) = true := by
  have sx : (recOf x).size = (recL x).length := by rw [← bytesOf_length, recOf_bytes]
  have sy : (recOf y).size = (recL y).length := by rw [← bytesOf_length, recOf_bytes]
  rw [beq_iff_eq, Bool.eq_iff_iff, beq_iff_eq, toList_inj, sameS_iff]
  constructor
  · intro h
    have h := congrArg bytesOf h
    rw [bytesOf_extract, bytesOf_extract, recOf_bytes, recOf_bytes, List.drop_zero, List.drop_zero, sx, sy] at h
    exact recL_prefix hx hy h
  · rintro rfl
    rfl
theorem unlike_else (pa ea pb eb : _) (x y : Nd) (ha : (pa, ea) = putR x) (hb : (pb, eb) = putR y) (hh : ¬ (ea = 0 ∧ eb = 0)) : Ev (fun k => sleuthlaw15_RecordUnlike.j0 k pa ea pb eb true x.f0 x.f1 x.f2 x.f3 y.f0 y.f1 y.f2 y.f3) true := by
  have key : ∀ (p : ByteArray) (e : Int) (z : Nd), (p, e) = putR z → e = 0 ∨ (e ≠ 0 ∧ p.toList = ([] : List UInt8)) := fun p e z h => by
    unfold putR at h
    split at h
    · exact Or.inl (congrArg Prod.snd h)
    · have h1 : p = ⟨#[]⟩ := congrArg Prod.fst h
      have h2 : e = 1500 := congrArg Prod.snd h
      subst h1 h2
      exact Or.inr ⟨by decide, toList_eq _⟩
  refine Ev.step (f := fun _ => some true) (fun k => ?_) (Ev.now _)
  rw [sleuthlaw15_RecordUnlike.j0, if_pos rfl]
  simp only [sleuthlaw0_Num.f, Option.bind_some]
  rcases key _ _ _ ha with a | ⟨a, a'⟩ <;> rcases key _ _ _ hb with b | ⟨b, b'⟩
  · exact absurd ⟨a, b⟩ hh
  · rw [if_pos a, if_neg b, b', BEq.rfl]
  · rw [if_neg a, if_pos a', if_pos b]
  · rw [if_neg a, if_pos a', if_neg b, b', BEq.rfl]
theorem recordUnlike_pure (a0 a1 : Int) (l2 : List ByteArray) (a3 : ByteArray) (b0 b1 : Int) (m2 : List ByteArray) (b3 : ByteArray) (h : fine1 ⟨a0, a1, l2, a3⟩) (h' : fine1 ⟨b0, b1, m2, b3⟩) : ∃ k, sleuthlaw15_RecordUnlike.f k a0 a1 l2 a3 b0 b1 m2 b3 = some true := by
  refine Ev.rounds (g := fun k => sleuthlaw15_RecordUnlike.f k a0 a1 l2 a3 b0 b1 m2 b3) ?_
  obtain ⟨_, h1, h2, _⟩ := h
  obtain ⟨_, h1', _, _⟩ := h'
  have h1 := wf_i64 h1
  have h1' := wf_i64 h1'
  have hl : l2.length ≤ 9223372036854775806 := by have := h2.1; simp only at this; omega
  unfold sleuthlaw15_RecordUnlike.f
  refine Ev.bind awakeRec_ev ?_
  simp only [if_pos]
  refine Ev.bind (putRec_ev ⟨a0, a1, l2, a3⟩ h1.1 h1.2) (Ev.bind (putRec_ev ⟨b0, b1, m2, b3⟩ h1'.1 h1'.2) ?_)
  simp only [sleuthlaw0_Num.f, Option.bind_some]
  by_cases c : recS ⟨a0, a1, l2, a3⟩ = true
  · have ea : putR ⟨a0, a1, l2, a3⟩ = (recOf ⟨a0, a1, l2, a3⟩, 0) := by unfold putR; rw [if_pos c]
    simp only [ea, if_pos]
    by_cases d : recS ⟨b0, b1, m2, b3⟩ = true
    · have eb : putR ⟨b0, b1, m2, b3⟩ = (recOf ⟨b0, b1, m2, b3⟩, 0) := by unfold putR; rw [if_pos d]
      simp only [eb]
      have hm : mn ((recOf ⟨a0, a1, l2, a3⟩).size : Int) ((recOf ⟨b0, b1, m2, b3⟩).size : Int) = ((min (recOf ⟨a0, a1, l2, a3⟩).size (recOf ⟨b0, b1, m2, b3⟩).size : Nat) : Int) := by
        unfold mn
        split <;> omega
      have hn : (((0 : Int) != 0) = true) = False := by simp
      refine Ev.step (f := fun k => (sleuthlaw0_SameNode.f k a0 a1 l2 a3 b0 b1 m2 b3).bind fun t => some ((((recOf ⟨a0, a1, l2, a3⟩).extract 0 (min (recOf ⟨a0, a1, l2, a3⟩).size (recOf ⟨b0, b1, m2, b3⟩).size)).toList == ((recOf ⟨b0, b1, m2, b3⟩).extract 0 (min (recOf ⟨a0, a1, l2, a3⟩).size (recOf ⟨b0, b1, m2, b3⟩).size)).toList) == t)) (fun k => ?_) ?_
      · rw [sleuthlaw15_RecordUnlike.j0, if_neg (by decide), hm, if_pos (by omega), if_pos (by omega), if_pos (by omega), Int.toNat_natCast]
      · refine Ev.bind (sameNodeG_ev ⟨a0, a1, l2, a3⟩ ⟨b0, b1, m2, b3⟩ hl) ?_
        rw [unlike_same _ _ c d]
        exact Ev.now _
    · have eb : putR ⟨b0, b1, m2, b3⟩ = (⟨#[]⟩, 1500) := by unfold putR; rw [if_neg d]
      simp only [eb]
      exact unlike_else _ _ _ _ ⟨a0, a1, l2, a3⟩ ⟨b0, b1, m2, b3⟩ ea.symm eb.symm (fun hh => absurd hh.2 (by decide))
  · have ea : putR ⟨a0, a1, l2, a3⟩ = (⟨#[]⟩, 1500) := by unfold putR; rw [if_neg c]
    have g : ¬ (1500 : Int) = 0 := by decide
    simp only [ea, if_neg g]
    exact unlike_else _ _ _ _ ⟨a0, a1, l2, a3⟩ ⟨b0, b1, m2, b3⟩ ea.symm rfl (fun hh => absurd hh.1 (by decide))
end Go.Proofs.YthoegphcmkejoaaDoor.G
