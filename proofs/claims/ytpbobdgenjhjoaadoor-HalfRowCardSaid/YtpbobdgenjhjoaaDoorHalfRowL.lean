/- The law HalfRow of package half, as a plain statement about what the program computes. -/
import Derived.Test.YtpbobdgenjhjoaaDoorHalfAsksL
import Derived.Test.YtpbobdgenjhjoaaDoorTSizes
import Derived.Test.YtpbobdgenjhjoaaDoorG35
namespace Go.Proofs.YtpbobdgenjhjoaaDoor.G
open Go.RowKit Go.Proofs.YtpbobdgenjhjoaaDoorW.PrintWords Go.Proofs.YtpbobdgenjhjoaaDoorW.PrintLast Go.Proofs.YtpbobdgenjhjoaaDoorW.PrintMore
set_option linter.unusedVariables false
set_option linter.unusedSimpArgs false
theorem wS (i : Nat) (h : i ≤ 100000) : wrap64 ((i : Int) + 1) = ((i + 1 : Nat) : Int) := by rw [w64 (by omega) (by omega)]; omega
theorem wF (x : Int) (h : 0 ≤ x ∧ x ≤ 100000) : wrap64 x = x := w64 (by omega) (by omega)
def mksR (k w : Nat) : List Int := ((List.replicate k 0).set 0 2).set w 2
theorem mksR_len (k w : Nat) : (mksR k w).length = k := by simp [mksR]
theorem mksR_at (k w j : Nat) (h : j < k) (hw : w < k) : rd (mksR k w) (j : Int) = if j = 0 ∨ j = w then 2 else 0 := by
  show List.getD _ _ _ = _
  rw [Int.toNat_natCast, List.getD_eq_getElem?_getD]
  unfold mksR
  rw [List.getElem?_set, List.getElem?_set, List.getElem?_replicate, List.length_set, List.length_replicate]
  by_cases c : w = j
  · subst c; rw [if_pos rfl, if_pos h, if_pos (.inr rfl)]; rfl
  · rw [if_neg c]
    by_cases d : 0 = j
    · subst d; rw [if_pos rfl, if_pos h, if_pos (.inl rfl)]; rfl
    · rw [if_neg d, if_pos h, if_neg (by omega)]; rfl
section
variable {k w : Nat} (hk0 : 2 ≤ k) (hk1 : k ≤ 512) (hw : w + 1 < k)
include hk0 hk1 hw
theorem row_marks : marksS (rowN k) (mksR k w) = true := by
  have _h := hw
  unfold marksS
  rw [may_row k (by omega) hk1, mksR_len, row_len, decide_eq_true rfl, Bool.true_and, Bool.true_and, Bool.not_eq_true', List.any_eq_false]
  intro x hx
  have h2 : oddB 2 = false := rfl
  have h0 : oddB 0 = false := rfl
  unfold mksR at hx
  rcases List.mem_or_eq_of_mem_set hx with h | h
  · rcases List.mem_or_eq_of_mem_set h with h | h
    · rw [List.eq_of_mem_replicate h, h0]; exact Bool.false_ne_true
    · rw [h, h2]; exact Bool.false_ne_true
  · rw [h, h2]; exact Bool.false_ne_true
theorem row_last : lastM (mksR k w) (mksR k w).length = (w : Int) := by
  have h0 : rd (mksR k w) 0 = 2 := by have := mksR_at k w 0 (by omega) (by omega); rw [if_pos (.inl rfl)] at this; exact this
  obtain ⟨s1, s2⟩ := lastM_spec (mksR k w) h0 (mksR k w).length (by rw [mksR_len]; omega)
  have hr := lastM_range (mksR k w) (mksR k w).length (by rw [mksR_len]; omega)
  rw [mksR_len] at s1 s2 hr ⊢
  obtain ⟨j, hj⟩ : ∃ j : Nat, lastM (mksR k w) k = (j : Int) := ⟨(lastM (mksR k w) k).toNat, by omega⟩
  rw [hj] at s1 s2 hr ⊢
  have e := mksR_at k w j (by omega) (by omega)
  rw [s1] at e
  by_cases c : j = w
  · subst c; rfl
  · by_cases d : j = 0
    · have := s2 w (by omega) (by omega)
      rw [mksR_at k w w (by omega) (by omega), if_pos (.inr rfl)] at this
      exact absurd rfl this
    · rw [if_neg (by omega)] at e; exact absurd e (by decide)
theorem row_dbt : ∀ n : Nat, n ≤ k → ∀ j : Nat, rdOf false (dbt (rowN k) (mksR k w) w n) (j : Int) = (decide (w < j) && decide (j < n))
  | 0, _, j => by have _h := hk0; have _h2 := hk1; rw [dbt, rdOf_rep, decide_eq_false (show ¬ j < 0 by omega), Bool.and_false]
  | n + 1, hn, j => by
    have ih := row_dbt n (by omega)
    rw [dbt]
    by_cases c : n ≤ w
    · rw [if_pos c, ih j]
      by_cases d : w < j
      · rw [decide_eq_false (show ¬ j < n by omega), decide_eq_false (show ¬ j < n + 1 by omega)]
      · rw [decide_eq_false d, Bool.false_and, Bool.false_and]
    · rw [if_neg c, rdOf_set, dbt_len, row_len, row_pa k n (by omega)]
      by_cases e : j = n
      · subst e
        rw [if_pos ⟨rfl, by omega⟩, mksR_at k w j (by omega) (by omega), if_neg (by omega), decide_eq_true (show w < j by omega), decide_eq_true (show j < j + 1 by omega)]
        by_cases f : (j : Int) - 1 = (w : Int)
        · rw [decide_eq_true f]; rfl
        · have := ih (j - 1)
          rw [show ((j - 1 : Nat) : Int) = (j : Int) - 1 by omega, decide_eq_true (show w < j - 1 by omega), decide_eq_true (show j - 1 < j by omega)] at this
          rw [this]; simp
      · rw [if_neg (fun h => e h.1), ih j]
        by_cases d : j < n
        · rw [decide_eq_true d, decide_eq_true (show j < n + 1 by omega)]
        · rw [decide_eq_false d, decide_eq_false (show ¬ j < n + 1 by omega)]
theorem row_open (j : Nat) (hj : j < k) : openB (dbt (rowN k) (mksR k w) w k) (mksR k w) (j : Int) = decide (w < j) := by
  unfold openB
  rw [row_dbt hk0 hk1 hw k (Nat.le_refl _) j, mksR_at k w j hj (by omega), decide_eq_true hj, Bool.and_true]
  by_cases c : w < j
  · rw [decide_eq_true c, if_neg (by omega)]; rfl
  · rw [decide_eq_false c, Bool.false_and]
theorem row_one (j : Nat) (hj : j < k) : oneB (dbt (rowN k) (mksR k w) w k) (mksR k w) (j : Int) = if w + 1 ≤ j then 1 else 0 := by
  unfold oneB
  rw [row_open hk0 hk1 hw j hj]
  by_cases c : w < j
  · rw [decide_eq_true c, if_pos rfl, if_pos (by omega)]
  · rw [decide_eq_false c, if_neg Bool.false_ne_true, if_neg (by omega)]
theorem row_sz (p : Nat) (hp : p < k) : rd (szH (rowN k) (dbt (rowN k) (mksR k w) w k) (mksR k w)) (p : Int) = if w + 1 ≤ p then (k : Int) - (p : Int) else (k : Int) - 1 - (w : Int) := by
  have hc : ∀ j : Nat, 0 ≤ oneB (dbt (rowN k) (mksR k w) w k) (mksR k w) (j : Int) := fun j => by unfold oneB; split <;> omega
  have hs : sumTo (fun j => oneB (dbt (rowN k) (mksR k w) w k) (mksR k w) (j : Int)) (rowN k).length ≤ 9223372036854775807 := by
    have := sumTo_le (f := fun j => oneB (dbt (rowN k) (mksR k w) w k) (mksR k w) (j : Int)) (g := fun _ => (1 : Int)) (n := (rowN k).length) (fun j _ => by show oneB _ _ _ ≤ 1; unfold oneB; split <;> omega)
    rw [sumTo_const, row_len] at this
    rw [row_len]; omega
  show rd (sizesP (rowN k) (oneB (dbt (rowN k) (mksR k w) w k) (mksR k w))) (p : Int) = _
  rw [sizesP_gen (may_row k (by omega) hk1) _ hc hs p (by rw [row_len]; exact hp), row_len]
  have e : ∀ j, j < k → (if dsc (ps (rowN k)) p j = true then oneB (dbt (rowN k) (mksR k w) w k) (mksR k w) (j : Int) else 0) = if max p (w + 1) ≤ j then (1 : Int) else 0 := fun j hj => by
    rw [row_dsc k (by omega) hk1 p j hj, row_one hk0 hk1 hw j hj]
    by_cases c : p ≤ j
    · rw [decide_eq_true c, if_pos rfl]
      by_cases d : w + 1 ≤ j
      · rw [if_pos d, if_pos (by omega)]
      · rw [if_neg d, if_neg (by omega)]
    · rw [decide_eq_false c, if_neg Bool.false_ne_true, if_neg (by omega)]
  rw [sumTo_congr e, sum_ge]
  by_cases c : w + 1 ≤ p
  · rw [if_pos c]; omega
  · rw [if_neg c]; omega
theorem row_best_low : ∀ n : Nat, n ≤ w + 1 → bestH (szH (rowN k) (dbt (rowN k) (mksR k w) w k) (mksR k w)) (dbt (rowN k) (mksR k w) w k) (mksR k w) ((k : Int) - 1 - (w : Int)) n = -1
  | 0, _ => rfl
  | n + 1, h => by
    rw [bestH, row_open hk0 hk1 hw n (by omega), decide_eq_false (show ¬ w < n by omega), if_neg (fun hh => Bool.false_ne_true hh.1)]
    exact row_best_low n (by omega)
theorem row_best_step (n : Nat) (h : w + 1 ≤ n) (hn : n < k) (B : Int) (hB : bestH (szH (rowN k) (dbt (rowN k) (mksR k w) w k) (mksR k w)) (dbt (rowN k) (mksR k w) w k) (mksR k w) ((k : Int) - 1 - (w : Int)) n = B) (hb1 : B < (k : Int)) (hb0 : B = -1 ∨ (w : Int) + 1 ≤ B) :
    bestH (szH (rowN k) (dbt (rowN k) (mksR k w) w k) (mksR k w)) (dbt (rowN k) (mksR k w) w k) (mksR k w) ((k : Int) - 1 - (w : Int)) (n + 1) = if B < 0 ∨ offW ((k : Int) - (n : Int)) ((k : Int) - 1 - (w : Int)) < offW ((k : Int) - B) ((k : Int) - 1 - (w : Int)) then (n : Int) else B := by
  rw [bestH, row_open hk0 hk1 hw n hn, decide_eq_true (show w < n by omega), hB, row_sz hk0 hk1 hw n hn, if_pos h]
  rcases hb0 with hb0 | hb0
  · rw [if_pos ⟨rfl, .inl (by omega)⟩, if_pos (.inl (by omega))]
  · obtain ⟨b, rfl⟩ : ∃ b : Nat, B = (b : Int) := ⟨B.toNat, by omega⟩
    rw [row_sz hk0 hk1 hw b (by omega), if_pos (show w + 1 ≤ b by omega)]
    by_cases c : offW ((k : Int) - (n : Int)) ((k : Int) - 1 - (w : Int)) < offW ((k : Int) - (b : Int)) ((k : Int) - 1 - (w : Int))
    · rw [if_pos ⟨rfl, .inr c⟩, if_pos (.inr c)]
    · rw [if_neg (fun hh => hh.2.elim (fun h' => by omega) c), if_neg (fun hh => hh.elim (fun h' => by omega) c)]
theorem row_best_high : ∀ n : Nat, w + 2 ≤ n → n ≤ k → (w : Int) + 1 ≤ bestH (szH (rowN k) (dbt (rowN k) (mksR k w) w k) (mksR k w)) (dbt (rowN k) (mksR k w) w k) (mksR k w) ((k : Int) - 1 - (w : Int)) n ∧ bestH (szH (rowN k) (dbt (rowN k) (mksR k w) w k) (mksR k w)) (dbt (rowN k) (mksR k w) w k) (mksR k w) ((k : Int) - 1 - (w : Int)) n < (n : Int)
  | 0, h, _ => absurd h (by omega)
  | n + 1, h, hn => by
    by_cases c : n = w + 1
    · have e := row_best_low hk0 hk1 hw n (by omega)
      rw [row_best_step hk0 hk1 hw n (by omega) (by omega) (-1) e (by omega) (.inl rfl), if_pos (.inl (by omega))]
      omega
    · have ih := row_best_high n (by omega) (by omega)
      rw [row_best_step hk0 hk1 hw n (by omega) (by omega) _ rfl (by omega) (.inr ih.1)]
      split <;> omega
theorem row_law_l1 (B : Int) (hB : bestH (szH (rowN k) (dbt (rowN k) (mksR k w) w k) (mksR k w)) (dbt (rowN k) (mksR k w) w k) (mksR k w) ((k : Int) - 1 - (w : Int)) k = B) : ∀ (n i : Nat) (b : Int), w + 2 ≤ i → i + n = k → bestH (szH (rowN k) (dbt (rowN k) (mksR k w) w k) (mksR k w)) (dbt (rowN k) (mksR k w) w k) (mksR k w) ((k : Int) - 1 - (w : Int)) i = b →
    Ev (fun q => sleuthlaw19_HalfRow.l1 q (k : Int) (w : Int) 0 ((k : Int) - 1 - (w : Int)) (offW ((k : Int) - b) ((k : Int) - 1 - (w : Int))) b (i : Int) 0 B) true := by
  intro n
  induction n with
  | zero =>
    intro i b h1 h2 hb
    obtain rfl : i = k := by omega
    obtain rfl : B = b := hB.symm.trans hb
    refine Ev.step (f := fun _ => some true) (fun q => ?_) (Ev.now _)
    rw [sleuthlaw19_HalfRow.l1, if_neg (by omega)]
    simp only [sleuthlaw0_Num.f, Option.bind_some, if_pos, BEq.rfl, Bool.and_self, halfSome_eq]
    rfl
  | succ n ih =>
    intro i b h1 h2 hb
    have hh := row_best_high hk0 hk1 hw i h1 (by omega)
    rw [hb] at hh
    have hst := row_best_step hk0 hk1 hw i (by omega) (by omega) b hb (by omega) (.inr hh.1)
    have q1 : (i : Int) < (k : Int) := by omega
    have q2 : ¬ (i : Int) = (w : Int) + 1 := by omega
    have q3 : ¬ b < 0 := by omega
    have q4 : i ≤ 100000 := by omega
    have q5 : 0 ≤ (w : Int) + 1 ∧ (w : Int) + 1 ≤ 100000 := by omega
    have q6 : 0 ≤ (k : Int) - (i : Int) ∧ (k : Int) - (i : Int) ≤ 100000 := by omega
    have i1 : w + 2 ≤ i + 1 := by omega
    have i2 : i + 1 + n = k := by omega
    have hw1 := wS i q4
    have hw2 := wF _ q5
    have hw3 := wF _ q6
    have hoff : mx (wrap64 ((wrap64 (2 * ((k : Int) - (i : Int)))) - ((k : Int) - 1 - (w : Int)))) (wrap64 (((k : Int) - 1 - (w : Int)) - (wrap64 (2 * ((k : Int) - (i : Int)))))) = offW ((k : Int) - (i : Int)) ((k : Int) - 1 - (w : Int)) := rfl
    by_cases c : offW ((k : Int) - (i : Int)) ((k : Int) - 1 - (w : Int)) < offW ((k : Int) - b) ((k : Int) - 1 - (w : Int))
    · rw [if_pos (.inr c)] at hst
      refine Ev.step (f := fun q => sleuthlaw19_HalfRow.l1 q (k : Int) (w : Int) 0 ((k : Int) - 1 - (w : Int)) (offW ((k : Int) - (i : Int)) ((k : Int) - 1 - (w : Int))) (i : Int) ((i + 1 : Nat) : Int) 0 B) (fun q => ?_) (ih (i + 1) (i : Int) i1 i2 hst)
      rw [sleuthlaw19_HalfRow.l1, if_pos q1, hw2, if_neg q2, hw3, hoff, if_pos c, hw1]
    · rw [if_neg (fun hh => hh.elim q3 c)] at hst
      refine Ev.step (f := fun q => sleuthlaw19_HalfRow.l1 q (k : Int) (w : Int) 0 ((k : Int) - 1 - (w : Int)) (offW ((k : Int) - b) ((k : Int) - 1 - (w : Int))) b ((i + 1 : Nat) : Int) 0 B) (fun q => ?_) (ih (i + 1) b i1 i2 hst)
      rw [sleuthlaw19_HalfRow.l1, if_pos q1, hw2, if_neg q2, hw3, hoff, if_neg c, hw1]
theorem row_law_end : Ev (fun q => (half_Next.f q (rowN k) (mksR k w)).bind fun bt430 => (sleuthlaw19_HalfRow.l1 q (k : Int) (w : Int) bt430.2.2 ((k : Int) - 1 - (w : Int)) ((k : Int) - 1 - (w : Int)) 0 ((w : Int) + 1) bt430.1 bt430.2.1)) true := by
  have hlow := row_best_low hk0 hk1 hw (w + 1) (Nat.le_refl _)
  have hh := row_best_high hk0 hk1 hw k (by omega) (Nat.le_refl _)
  have hst := row_best_step hk0 hk1 hw (w + 1) (Nat.le_refl _) hw (-1) hlow (by omega) (.inl rfl)
  rw [if_pos (.inl (by omega))] at hst
  have h0 : rd (mksR k w) 0 = 2 := by have := mksR_at k w 0 (by omega) (by omega); rw [if_pos (.inl rfl)] at this; exact this
  have hsw := row_sz hk0 hk1 hw w (by omega)
  rw [if_neg (by omega)] at hsw
  obtain ⟨B, hB⟩ : ∃ B, bestH (szH (rowN k) (dbt (rowN k) (mksR k w) w k) (mksR k w)) (dbt (rowN k) (mksR k w) w k) (mksR k w) ((k : Int) - 1 - (w : Int)) k = B := ⟨_, rfl⟩
  have e : nextH (rowN k) (mksR k w) = (0, B, 0) := by
    unfold nextH askH
    rw [if_pos (row_marks hk0 hk1 hw), if_pos h0, row_last hk0 hk1 hw, Int.toNat_natCast, row_len, hsw, hB, if_neg (by rw [hB] at hh; omega)]
  refine Ev.bind (next_half_ev (rowN k) (mksR k w)) ?_
  rw [e]
  have q1 : (w : Int) + 1 < (k : Int) := by omega
  have q5 : 0 ≤ (w : Int) + 1 ∧ (w : Int) + 1 ≤ 100000 := by omega
  have q6 : 0 ≤ (k : Int) - ((w : Int) + 1) ∧ (k : Int) - ((w : Int) + 1) ≤ 100000 := by omega
  have q7 : 0 ≤ (w : Int) + 1 + 1 ∧ (w : Int) + 1 + 1 ≤ 100000 := by omega
  have e7 : (w : Int) + 1 + 1 = ((w + 1 + 1 : Nat) : Int) := by omega
  have e6 : (k : Int) - ((w : Int) + 1) = (k : Int) - (((w + 1 : Nat)) : Int) := by omega
  have i3 : w + 2 ≤ w + 1 + 1 := by omega
  have i4 : w + 1 + 1 + (k - (w + 2)) = k := by omega
  have hw2 := wF _ q5
  have hw1 := (wF _ q7).trans e7
  have hw3 := (wF _ q6).trans e6
  refine Ev.step (f := fun q => sleuthlaw19_HalfRow.l1 q (k : Int) (w : Int) 0 ((k : Int) - 1 - (w : Int)) (offW ((k : Int) - ((w + 1 : Nat) : Int)) ((k : Int) - 1 - (w : Int))) ((w + 1 : Nat) : Int) ((w + 1 + 1 : Nat) : Int) 0 B) (fun q => ?_) (row_law_l1 hk0 hk1 hw B hB (k - (w + 2)) (w + 1 + 1) ((w + 1 : Nat) : Int) i3 i4 hst)
  rw [sleuthlaw19_HalfRow.l1, if_pos q1, hw2, if_pos rfl, hw3, hw1]
  rfl
end
theorem row_law_l0 (k w : Nat) (hk0 : 2 ≤ k) (hk1 : k ≤ 512) (hw : w + 1 < k) : ∀ n i : Nat, i + n = k → Ev (fun q => sleuthlaw19_HalfRow.l0 q (k : Int) (w : Int) (rowI k i fun j : Nat => one ((j : Int) - 1)) (List.replicate k 0) (i : Int)) true := by
  intro n
  induction n with
  | zero =>
    intro i hi
    obtain rfl : i = k := by omega
    refine Ev.step (f := fun q => (half_Next.f q (rowN i) (mksR i w)).bind fun bt430 => (sleuthlaw19_HalfRow.l1 q (i : Int) (w : Int) bt430.2.2 ((i : Int) - 1 - (w : Int)) ((i : Int) - 1 - (w : Int)) 0 ((w : Int) + 1) bt430.1 bt430.2.1)) (fun q => ?_) (row_law_end hk0 hk1 hw)
    have q0 : ¬ (i : Int) < (i : Int) := by omega
    have q1 : (0 : Int) < ((List.replicate i (0 : Int)).length : Int) := by rw [List.length_replicate]; omega
    have q2 : (0 : Int) ≤ (w : Int) := by omega
    have q3 : (w : Int) < ((List.replicate i (0 : Int)).length : Int) := by rw [List.length_replicate]; omega
    have q5 : 0 ≤ (w : Int) + 1 ∧ (w : Int) + 1 ≤ 100000 := by omega
    have q6 : 0 ≤ (i : Int) - 1 ∧ (i : Int) - 1 ≤ 100000 := by omega
    have q7 : 0 ≤ (i : Int) - 1 - (w : Int) ∧ (i : Int) - 1 - (w : Int) ≤ 100000 := by omega
    have hw2 := wF _ q5
    have hw4 : wrap64 (wrap64 ((i : Int) - 1) - (w : Int)) = (i : Int) - 1 - (w : Int) := by rw [wF _ q6, wF _ q7]
    rw [sleuthlaw19_HalfRow.l0, if_neg q0, if_pos q1, if_pos q2, if_pos q3, hw2, hw4, rowI_full, Int.toNat_natCast]
    rfl
  | succ n ih =>
    intro i hi
    have hw1 : wrap64 ((i : Int) + 1) = ((i + 1 : Nat) : Int) := by rw [w64 (by omega) (by omega)]; omega
    have hw2 : wrap64 ((i : Int) - 1) = (i : Int) - 1 := w64 (by omega) (by omega)
    have hs := rowI_set k i (fun j : Nat => one ((j : Int) - 1)) (by omega)
    have q3 : (i : Int) < ((rowI k i fun j : Nat => one ((j : Int) - 1)).length : Int) := by simp [rowI]; omega
    refine Ev.step (f := fun q => sleuthlaw19_HalfRow.l0 q (k : Int) (w : Int) (rowI k (i + 1) fun j : Nat => one ((j : Int) - 1)) (List.replicate k 0) ((i + 1 : Nat) : Int)) (fun q => ?_) (ih (i + 1) (by omega))
    rw [sleuthlaw19_HalfRow.l0, if_pos (by omega), if_pos (by omega), if_pos q3, hw1, hw2, Int.toNat_natCast, ← hs]
    rfl
theorem halfRow_pure : sleuthlaw19_HalfRow.Pure := by
  intro a0 a1 _ _
  refine evRounds (g := fun k => sleuthlaw19_HalfRow.f k a0 a1) ?_
  unfold sleuthlaw19_HalfRow.f
  refine Ev.bind halfAwake_ev ?_
  obtain ⟨d, hd, ed⟩ := bits_nat a0 31 (by omega)
  rw [show ((31 : Nat) : Int) = 31 from rfl] at ed
  have hd1 : wrap64 (2 + (d : Int)) = ((2 + d : Nat) : Int) := by rw [w64 (by omega) (by omega)]; omega
  have hd2 : wrap64 (((2 + d : Nat) : Int) - 1) = ((1 + d : Nat) : Int) := by rw [w64 (by omega) (by omega)]; omega
  obtain ⟨eu, w, hw, em⟩ := umod a1 (1 + d) (by omega) (by omega)
  have g0 : ¬ ((1 + d : Nat) : Int) = 0 := by omega
  have g1 : (0 : Int) ≤ ((2 + d : Nat) : Int) := by omega
  simp only [if_pos, ed, hd1, hd2, eu, if_neg g0, if_pos g1, em, Int.toNat_natCast]
  have g2 : 2 + d ≤ 5026338869833 := by omega
  have g3 : 2 + d ≤ 35184372088832 := by omega
  simp only [if_pos g2, if_pos g3]
  have h := row_law_l0 (2 + d) w (by omega) (by omega) (by omega) (2 + d) 0 (by omega)
  rw [rowI_zero] at h
  exact h
end Go.Proofs.YtpbobdgenjhjoaaDoor.G
