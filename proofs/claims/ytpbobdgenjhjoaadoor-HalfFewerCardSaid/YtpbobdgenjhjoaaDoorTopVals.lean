/- What package top answers, as plain functions. -/
import Derived.Test.YtpbobdgenjhjoaaDoorU8
namespace Go.Proofs.YtpbobdgenjhjoaaDoor.G
open Go.RowKit Go.Proofs.YtpbobdgenjhjoaaDoorW.PrintWords Go.Proofs.YtpbobdgenjhjoaaDoorW.PrintLast Go.Proofs.YtpbobdgenjhjoaaDoorW.PrintMore
set_option linter.unusedVariables false
set_option linter.unusedSimpArgs false
def marksS (ns : List Nd) (ms : List Int) : Bool := mayT ns && (decide (ms.length = ns.length) && !ms.any oddB)
theorem may_top_ev (ns : List Nd) (ms : List Int) : Ev (fun k => top_May.f k ns ms) (marksS ns ms) := by
  unfold top_May.f marksS
  exact Ev.bind (trailMay_ev ns) (Ev.now _)
theorem marksS_spec {ns : List Nd} {ms : List Int} (h : marksS ns ms = true) : mayT ns = true ∧ ms.length = ns.length ∧ ∀ x ∈ ms, oddB x = false := by
  unfold marksS at h
  rw [Bool.and_eq_true, Bool.and_eq_true, decide_eq_true_iff, Bool.not_eq_true'] at h
  exact ⟨h.1, h.2.1, fun x hx => by have := List.any_eq_false.1 h.2.2 x hx; simpa using this⟩
theorem rd_mem {ms : List Int} (i : Nat) (h : i < ms.length) : rd ms (i : Int) ∈ ms := by
  show List.getD _ _ _ ∈ _
  rw [Int.toNat_natCast, List.getD_eq_getElem?_getD, List.getElem?_eq_getElem h]
  exact List.getElem_mem _
theorem marks_at {ns : List Nd} {ms : List Int} (h : marksS ns ms = true) (i : Nat) (hi : i < ns.length) : 0 ≤ rd ms (i : Int) ∧ rd ms (i : Int) ≤ 3 := by
  obtain ⟨_, hl, hx⟩ := marksS_spec h
  have := hx _ (rd_mem i (by omega))
  unfold oddB at this
  rw [Bool.or_eq_false_iff, decide_eq_false_iff_not, decide_eq_false_iff_not] at this
  omega
theorem upTo_odd (x : Int) : (decide (0 ≤ x) && decide (x ≤ 3)) = !oddB x := by
  unfold oddB
  by_cases h1 : x < 0
  · rw [decide_eq_true h1, decide_eq_false (show ¬ 0 ≤ x by omega)]; rfl
  · rw [decide_eq_false h1, decide_eq_true (show 0 ≤ x by omega)]
    by_cases h2 : 3 < x
    · rw [decide_eq_true h2, decide_eq_false (show ¬ x ≤ 3 by omega)]; rfl
    · rw [decide_eq_false h2, decide_eq_true (show x ≤ 3 by omega)]; rfl
theorem refMarks_l0 (ns : List Nd) (hok : okN ns) (ms : List Int) (hl : ms.length ≤ 9223372036854775806) : ∀ n i : Nat, i + n = ms.length → Ev (fun k => sleuthref12_MarksMay.l0 k ns ms (i : Int)) (!(ms.drop i).any oddB && (mayT ns && decide (ms.length = ns.length))) := by
  intro n
  induction n with
  | zero =>
    intro i hi
    refine Ev.step (f := fun k => (sleuthref12_TrailMay.f k ns).bind fun t391 => (if t391 = true then (some ((ms.length : Int) == (ns.length : Int))) else (some false))) (fun k => by rw [sleuthref12_MarksMay.l0, if_neg (by omega)]) ?_
    refine Ev.bind (refTrail_ev ns hok) ?_
    rw [List.drop_eq_nil_of_le (by omega)]
    cases mayT ns with
    | false => simp only [if_neg Bool.false_ne_true]; exact Ev.now _
    | true =>
      simp only [if_pos]
      have e : ((ms.length : Int) == (ns.length : Int)) = decide (ms.length = ns.length) := by
        by_cases c : ms.length = ns.length
        · rw [decide_eq_true c]; exact beq_iff_eq.2 (by omega)
        · rw [decide_eq_false c]; exact beq_eq_false_iff_ne.2 (by omega)
      rw [e]
      exact Ev.now _
  | succ n ih =>
    intro i hi
    have hw : wrap64 ((i : Int) + 1) = ((i + 1 : Nat) : Int) := by rw [w64 (by omega) (by omega)]; omega
    have hd : ms.drop i = rd ms (i : Int) :: ms.drop (i + 1) := by
      rw [List.drop_eq_getElem_cons (show i < ms.length by omega)]
      congr 1
      show _ = List.getD _ _ _
      rw [Int.toNat_natCast, List.getD_eq_getElem?_getD, List.getElem?_eq_getElem (show i < ms.length by omega)]; rfl
    rw [hd, List.any_cons]
    cases c : oddB (rd ms (i : Int)) with
    | true =>
      refine Ev.step (f := fun _ => some false) (fun k => ?_) (Ev.now _)
      rw [sleuthref12_MarksMay.l0, if_pos (by omega), if_pos (by omega), upTo_eq, Option.bind_some, upTo_odd, c]; rfl
    | false =>
      rw [Bool.false_or]
      refine Ev.step (f := fun k => sleuthref12_MarksMay.l0 k ns ms ((i + 1 : Nat) : Int)) (fun k => ?_) (ih (i + 1) (by omega))
      rw [sleuthref12_MarksMay.l0, if_pos (by omega), if_pos (by omega), upTo_eq, Option.bind_some, upTo_odd, c, hw]; rfl
theorem refMarks_ev (ns : List Nd) (hok : okN ns) (ms : List Int) (hl : ms.length ≤ 9223372036854775806) : Ev (fun k => sleuthref12_MarksMay.f k ns ms) (marksS ns ms) := by
  have h := refMarks_l0 ns hok ms hl ms.length 0 (by omega)
  rw [List.drop_zero] at h
  have e : (!ms.any oddB && (mayT ns && decide (ms.length = ns.length))) = marksS ns ms := by
    unfold marksS
    cases ms.any oddB <;> cases mayT ns <;> cases decide (ms.length = ns.length) <;> rfl
  rw [e] at h
  exact h
/-! which child has a mark -/
theorem kidsTo_in (ns : List Nd) (a : Int) (i : Nat) : ∀ n : Nat, i < n → a < (i : Int) → (rn ns (i : Int)).f1 = a → (i : Int) ∈ kidsTo ns a n
  | 0, h, _, _ => absurd h (by omega)
  | n + 1, h, h1, h2 => by
    rw [kidsTo]
    by_cases d : i = n
    · subst d
      rw [if_pos ⟨h1, h2⟩]; simp
    · have := kidsTo_in ns a i n (by omega) h1 h2
      split
      · exact List.mem_append_left _ this
      · exact this
theorem fstK_spec {ns : List Nd} {ms : List Int} {a m k : Int} (h : fstK ns ms a m = some k) : a < k ∧ k < (ns.length : Int) ∧ (rn ns k).f1 = a ∧ rd ms k = m := by
  unfold fstK at h
  have h1 := kidsTo_rng ns a k ns.length (List.mem_of_find?_eq_some h)
  have h2 := List.find?_some h
  exact ⟨h1.1, h1.2.1, h1.2.2, by simpa using h2⟩
theorem first_eq {ns : List Nd} {ms : List Int} (h : marksS ns ms = true) (a m : Int) (h0 : 0 ≤ a) (h1 : a < (ns.length : Int)) : top_first.f ns ms a m = some (match fstK ns ms a m with | some k => (k, true) | none => (0, false)) := by
  obtain ⟨hm, hl, _⟩ := marksS_spec h
  have hlen := mayT_len hm
  unfold top_first.f
  rw [if_pos ⟨h0, h1, by omega, hlen.2⟩]
  cases fstK ns ms a m <;> rfl
theorem bug_eq {ns : List Nd} {ms : List Int} (h : marksS ns ms = true) (a : Int) (h0 : 0 ≤ a) (h1 : a < (ns.length : Int)) : top_Bug.f ns ms a = some (bugS ns ms a) := by
  obtain ⟨hm, hl, _⟩ := marksS_spec h
  have hlen := mayT_len hm
  unfold top_Bug.f
  rw [if_pos ⟨h0, h1, by omega, hlen.2⟩]
def downT (ns : List Nd) (ms : List Int) : Nat → Int → Int
  | 0, a => a
  | n + 1, a => match fstK ns ms a 2 with | some k => downT ns ms n k | none => a
def finT (ns : List Nd) (ms : List Int) (a : Int) : Int × Int := match fstK ns ms a 0 with | some k => (0, k) | none => bugS ns ms a
def askT (ns : List Nd) (ms : List Int) : Int × Int := if rd ms 0 = 0 then (0, 0) else if rd ms 0 = 1 then (2, 0) else if rd ms 0 = 3 then (3, 0) else finT ns ms (downT ns ms ns.length 0)
theorem ask_l0 {ns : List Nd} {ms : List Int} (h : marksS ns ms = true) : ∀ (n : Nat) (a : Int), 0 ≤ a → a < (ns.length : Int) → (ns.length : Int) ≤ a + n → ∀ p : Int × Bool, p = (match fstK ns ms a 2 with | some k => (k, true) | none => (0, false)) → Ev (fun q => top_Ask.l0 q ns ms a p.1 p.2) (finT ns ms (downT ns ms n a)) := by
  intro n
  induction n with
  | zero => intro a h0 h1 h2; omega
  | succ n ih =>
    intro a h0 h1 h2 p hp
    cases hf : fstK ns ms a 2 with
    | some k =>
      rw [hf] at hp
      subst hp
      have hk := fstK_spec hf
      have e : downT ns ms (n + 1) a = downT ns ms n k := by rw [downT, hf]
      rw [e]
      refine Ev.step (f := fun q => top_Ask.l0 q ns ms k (match fstK ns ms k 2 with | some k => (k, true) | none => (0, false)).1 (match fstK ns ms k 2 with | some k => (k, true) | none => ((0 : Int), false)).2) (fun q => ?_) (ih k (by omega) hk.2.1 (by omega) _ rfl)
      rw [top_Ask.l0]
      simp only [if_pos, first_eq h k 2 (by omega) hk.2.1, Option.bind_some]
    | none =>
      rw [hf] at hp
      subst hp
      have e : downT ns ms (n + 1) a = a := by rw [downT, hf]
      rw [e]
      refine Ev.step (f := fun _ => some (finT ns ms a)) (fun q => ?_) (Ev.now _)
      rw [top_Ask.l0]
      simp only [if_neg Bool.false_ne_true, first_eq h a 0 h0 h1, Option.bind_some, bug_eq h a h0 h1]
      unfold finT
      cases fstK ns ms a 0 with
      | some k => simp only [if_pos]
      | none => simp only [if_neg Bool.false_ne_true]
theorem ask_ev {ns : List Nd} {ms : List Int} (h : marksS ns ms = true) : Ev (fun k => top_Ask.f k ns ms) (askT ns ms) := by
  obtain ⟨hm, hl, _⟩ := marksS_spec h
  have hlen := mayT_len hm
  unfold top_Ask.f askT
  have g : (0 : Int) < (ms.length : Int) := by omega
  simp only [if_pos g]
  by_cases c0 : rd ms 0 = 0
  · simp only [if_pos c0]; exact Ev.now _
  · simp only [if_neg c0]
    by_cases c1 : rd ms 0 = 1
    · simp only [if_pos c1]; exact Ev.now _
    · simp only [if_neg c1]
      by_cases c3 : rd ms 0 = 3
      · simp only [if_pos c3]; exact Ev.now _
      · simp only [if_neg c3, first_eq h 0 2 (by omega) (by omega), Option.bind_some]
        exact ask_l0 h ns.length 0 (by omega) (by omega) (by omega) _ rfl
theorem downT_spec {ns : List Nd} {ms : List Int} : ∀ (n : Nat) (a : Int), 0 ≤ a → a < (ns.length : Int) → (ns.length : Int) ≤ a + n → rd ms a = 2 → 0 ≤ downT ns ms n a ∧ downT ns ms n a < (ns.length : Int) ∧ rd ms (downT ns ms n a) = 2
  | 0, a, h0, h1, h2, _ => by omega
  | n + 1, a, h0, h1, h2, h3 => by
    rw [downT]
    cases hf : fstK ns ms a 2 with
    | some k =>
      have hk := fstK_spec hf
      exact downT_spec n k (by omega) hk.2.1 (by omega) hk.2.2.2
    | none => exact ⟨h0, h1, h3⟩
end Go.Proofs.YtpbobdgenjhjoaaDoor.G
