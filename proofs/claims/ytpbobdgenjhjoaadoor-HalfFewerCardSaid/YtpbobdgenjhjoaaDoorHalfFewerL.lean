/- The law HalfFewer of package half, as a plain statement about what the program computes. -/
import Derived.Test.YtpbobdgenjhjoaaDoorHalfMore
import Derived.Test.YtpbobdgenjhjoaaDoorG37
import Derived.Test.YtpbobdgenjhjoaaDoorG38
namespace Go.Proofs.YtpbobdgenjhjoaaDoor.G
open Go.RowKit Go.Proofs.YtpbobdgenjhjoaaDoorW.PrintWords Go.Proofs.YtpbobdgenjhjoaaDoorW.PrintLast Go.Proofs.YtpbobdgenjhjoaaDoorW.PrintMore
set_option linter.unusedVariables false
set_option linter.unusedSimpArgs false
theorem wS' (i : Nat) (h : i ≤ 100000) : wrap64 ((i : Int) + 1) = ((i + 1 : Nat) : Int) := by rw [w64 (by omega) (by omega)]; omega
theorem dbt_intro {ns : List Nd} (hm : mayT ns = true) (ms : List Int) (w : Nat) : ∀ n : Nat, n ≤ ns.length → ∀ j : Nat, w < j → j < n → rd ms (j : Int) ≠ 1 → (pa ns j = (w : Int) ∨ (0 ≤ pa ns j ∧ rdOf false (dbt ns ms w n) (pa ns j) = true)) → rdOf false (dbt ns ms w n) (j : Int) = true
  | 0, _, j, _, h, _, _ => absurd h (by omega)
  | n + 1, hn, j, h1, h2, h3, h4 => by
    have hpj := mayT_pa hm j (by omega)
    have c : ¬ n ≤ w := by omega
    have hlen := dbt_len ns ms w n
    obtain ⟨p, hpp⟩ : ∃ p : Nat, pa ns j = (p : Int) := ⟨(pa ns j).toNat, by omega⟩
    have h4' : pa ns j = (w : Int) ∨ (0 ≤ pa ns j ∧ rdOf false (dbt ns ms w n) (pa ns j) = true) := by
      rcases h4 with h | ⟨h, h'⟩
      · exact .inl h
      · refine .inr ⟨h, ?_⟩
        rw [dbt, if_neg c, hpp, rdOf_set, if_neg (by omega), ← hpp] at h'
        exact h'
    rw [dbt, if_neg c, rdOf_set]
    by_cases e : j = n
    · subst e
      rw [if_pos ⟨rfl, by omega⟩, Bool.and_eq_true, Bool.or_eq_true, decide_eq_true_iff, bne_iff_ne]
      exact ⟨h4'.elim .inl fun h => .inr h.2, h3⟩
    · rw [if_neg (fun h => e h.1)]
      exact dbt_intro hm ms w n (by omega) j h1 (by omega) h3 h4'
/-- how many places ahead of n are open -/
def cntO (d : List Bool) (ms : List Int) : Nat → Nat
  | 0 => 0
  | n + 1 => cntO d ms n + if openB d ms (n : Int) = true then 1 else 0
theorem cntO_le (d : List Bool) (ms : List Int) : ∀ n : Nat, cntO d ms n ≤ n
  | 0 => Nat.le_refl _
  | n + 1 => by have := cntO_le d ms n; rw [cntO]; split <;> omega
theorem cntO_mono (d d' : List Bool) (ms ms' : List Int) : ∀ n : Nat, (∀ j : Nat, j < n → openB d' ms' (j : Int) = true → openB d ms (j : Int) = true) → cntO d' ms' n ≤ cntO d ms n
  | 0, _ => Nat.le_refl _
  | n + 1, h => by
    have ih := cntO_mono d d' ms ms' n (fun j hj => h j (by omega))
    have := h n (by omega)
    rw [cntO, cntO]
    by_cases c : openB d' ms' (n : Int) = true
    · rw [if_pos c, if_pos (this c)]; omega
    · rw [if_neg c]; split <;> omega
theorem cntO_less (d d' : List Bool) (ms ms' : List Int) (b : Nat) (hb : openB d ms (b : Int) = true) (hb' : openB d' ms' (b : Int) ≠ true) : ∀ n : Nat, b < n → (∀ j : Nat, j < n → openB d' ms' (j : Int) = true → openB d ms (j : Int) = true) → cntO d' ms' n < cntO d ms n
  | 0, h, _ => absurd h (by omega)
  | n + 1, hn, h => by
    have := h n (by omega)
    rw [cntO, cntO]
    by_cases e : b = n
    · subst e
      have ih := cntO_mono d d' ms ms' b (fun j hj => h j (by omega))
      rw [if_pos hb, if_neg hb']; omega
    · have ih := cntO_less d d' ms ms' b hb hb' n (by omega) (fun j hj => h j (by omega))
      by_cases c : openB d' ms' (n : Int) = true
      · rw [if_pos c, if_pos (this c)]; omega
      · rw [if_neg c]; split <;> omega
def numD (ns : List Nd) (ms : List Int) : Int := (cntO (dbt ns ms (lastM ms ms.length).toNat ns.length) ms ns.length : Nat)
theorem dbt_lt {ns : List Nd} (hm : mayT ns = true) (ms : List Int) (w : Nat) (j n : Nat) (hj : j < n) (hn : n ≤ ns.length) : rdOf false (dbt ns ms w n) (j : Int) = rdOf false (dbt ns ms w (j + 1)) (j : Int) := by
  induction n with
  | zero => omega
  | succ n ih =>
    by_cases c : n ≤ w
    · rw [dbt_low ns ms w (n + 1) (by omega), dbt_low ns ms w (j + 1) (by omega)]
    · by_cases e : j = n
      · subst e; rfl
      · rw [dbt, if_neg c, rdOf_set, if_neg (fun h => e h.1)]
        exact ih (by omega) (by omega)
theorem doubtsL_l1 {ns : List Nd} {ms : List Int} (h : marksS ns ms = true) (w : Nat) : ∀ n i : Nat, w < i → i + n = ns.length → Ev (fun q => sleuthlaw19_doubts.l1 q ns ms (w : Int) (dbt ns ms w i) (cntO (dbt ns ms w ns.length) ms i : Nat) (i : Int)) (cntO (dbt ns ms w ns.length) ms ns.length : Nat) := by
  obtain ⟨hm, hl, _⟩ := marksS_spec h
  have hlen := mayT_len hm
  intro n
  induction n with
  | zero =>
    intro i hw hi
    obtain rfl : i = ns.length := by omega
    refine Ev.step (f := fun _ => some ((cntO (dbt ns ms w ns.length) ms ns.length : Nat) : Int)) (fun q => ?_) (Ev.now _)
    rw [sleuthlaw19_doubts.l1, if_neg (by omega)]
  | succ n ih =>
    intro i hwi hi
    have hp := mayT_pa hm i (by omega)
    have hdl := dbt_len ns ms w i
    have hcl := cntO_le (dbt ns ms w ns.length) ms i
    have hp' : (rd_T41 ns (i : Int)).f1 = pa ns i := rfl
    have q1 : (i : Int) < (ns.length : Int) := by omega
    have q2 : (0 : Int) ≤ (i : Int) := by omega
    have q3 : (i : Int) < (ms.length : Int) := by omega
    have q4 : (i : Int) < ((dbt ns ms w i).length : Int) := by omega
    have q5 : 0 ≤ pa ns i := by omega
    have q6 : pa ns i < ((dbt ns ms w i).length : Int) := by omega
    have q7 : i ≤ 100000 := by omega
    have q8 : cntO (dbt ns ms w ns.length) ms i ≤ 100000 := by omega
    have hat : rdOf false (dbt ns ms w (i + 1)) (i : Int) = rdOf false (dbt ns ms w ns.length) (i : Int) := (dbt_lt hm ms w i ns.length (by omega) (Nat.le_refl _)).symm
    have hop : openB (dbt ns ms w ns.length) ms (i : Int) = (rdOf false (dbt ns ms w (i + 1)) (i : Int) && (rd ms (i : Int) == 0)) := by rw [hat]; rfl
    have hi9 : w < i + 1 := by omega
    have hi8 : i + 1 + n = ns.length := by omega
    have ihh := ih (i + 1) hi9 hi8
    have hstep : dbt ns ms w (i + 1) = (dbt ns ms w i).set i ((decide (pa ns i = (w : Int)) || rdOf false (dbt ns ms w i) (pa ns i)) && (rd ms (i : Int) != 1)) := by rw [dbt, if_neg (show ¬ i ≤ w by omega)]
    have hw1 := wS' i q7
    have hw2 := wS' _ q8
    have hgo : ∀ (q : Nat) (y : List Bool), y = dbt ns ms w (i + 1) → (if rdOf false y (i : Int) = true then (if (rd ms (i : Int)) = 0 then (sleuthlaw19_doubts.l1 q ns ms (w : Int) y (wrap64 (((cntO (dbt ns ms w ns.length) ms i : Nat) : Int) + 1)) (wrap64 ((i : Int) + 1))) else (sleuthlaw19_doubts.l1 q ns ms (w : Int) y ((cntO (dbt ns ms w ns.length) ms i : Nat) : Int) (wrap64 ((i : Int) + 1)))) else (sleuthlaw19_doubts.l1 q ns ms (w : Int) y ((cntO (dbt ns ms w ns.length) ms i : Nat) : Int) (wrap64 ((i : Int) + 1)))) =
        sleuthlaw19_doubts.l1 q ns ms (w : Int) (dbt ns ms w (i + 1)) ((cntO (dbt ns ms w ns.length) ms (i + 1) : Nat) : Int) ((i + 1 : Nat) : Int) := by
      rintro q y rfl
      rw [hw1, hw2, cntO, hop]
      cases rdOf false (dbt ns ms w (i + 1)) (i : Int) with
      | false => rw [if_neg Bool.false_ne_true, Bool.false_and, if_neg Bool.false_ne_true] <;> rfl
      | true =>
        rw [if_pos rfl, Bool.true_and]
        by_cases c : rd ms (i : Int) = 0
        · rw [if_pos c, if_pos (beq_iff_eq.2 c)]
        · rw [if_neg c, if_neg (fun hh => c (beq_iff_eq.1 hh))] <;> rfl
    refine Ev.step (f := fun q => sleuthlaw19_doubts.l1 q ns ms (w : Int) (dbt ns ms w (i + 1)) ((cntO (dbt ns ms w ns.length) ms (i + 1) : Nat) : Int) ((i + 1 : Nat) : Int)) (fun q => ?_) ihh
    rw [sleuthlaw19_doubts.l1, if_pos q1, if_pos q2, hp', Int.toNat_natCast]
    by_cases c : pa ns i = (w : Int)
    · rw [if_pos c, if_pos q3, if_pos q4, Option.bind_some]
      exact hgo q _ (by rw [hstep, decide_eq_true c, Bool.true_or, Bool.true_and])
    · rw [if_neg c, if_pos q5, if_pos q6]
      cases hb : rdOf false (dbt ns ms w i) (pa ns i) with
      | true =>
        rw [if_pos rfl, if_pos q3, if_pos q4, Option.bind_some]
        exact hgo q _ (by rw [hstep, hb, Bool.or_true, Bool.true_and])
      | false =>
        rw [if_neg Bool.false_ne_true, if_pos q4, Option.bind_some, if_pos q3]
        exact hgo q _ (by rw [hstep, hb, decide_eq_false c, Bool.false_or, Bool.false_and])
theorem cntO_low {ns : List Nd} (hm : mayT ns = true) (ms : List Int) (w : Nat) : ∀ n : Nat, n ≤ w + 1 → cntO (dbt ns ms w ns.length) ms n = 0
  | 0, _ => rfl
  | n + 1, h => by
    rw [cntO, cntO_low hm ms w n (by omega), if_neg]
    intro ho
    unfold openB at ho
    rw [Bool.and_eq_true] at ho
    have := dbt_spec hm ms w ns.length (Nat.le_refl _) n ho.1
    omega
theorem doubtsL_l0 {ns : List Nd} {ms : List Int} (h : marksS ns ms = true) : ∀ n i : Nat, i + n = ns.length → Ev (fun q => sleuthlaw19_doubts.l0 q ns ms (lastM ms i) (i : Int)) (numD ns ms) := by
  obtain ⟨hm, hl, _⟩ := marksS_spec h
  have hlen := mayT_len hm
  intro n
  induction n with
  | zero =>
    intro i hi
    obtain rfl : i = ns.length := by omega
    have hr := lastM_range ms ns.length (by omega)
    obtain ⟨w, hw⟩ : ∃ w : Nat, lastM ms ns.length = (w : Int) := ⟨(lastM ms ns.length).toNat, by omega⟩
    rw [hw] at hr
    have e : numD ns ms = (cntO (dbt ns ms w ns.length) ms ns.length : Nat) := by unfold numD; rw [hl, hw, Int.toNat_natCast]
    rw [e, hw]
    have q1 : w + 1 + (ns.length - (w + 1)) = ns.length := by omega
    have h1 := doubtsL_l1 h w (ns.length - (w + 1)) (w + 1) (by omega) q1
    rw [dbt_low ns ms w (w + 1) (Nat.le_refl _), cntO_low hm ms w (w + 1) (Nat.le_refl _)] at h1
    have q2 : ¬ (ns.length : Int) < (ns.length : Int) := by omega
    have q3 : (0 : Int) ≤ (ns.length : Int) := by omega
    have q4 : ns.length ≤ 281474976710656 := by omega
    have hw1 := wS' w (by omega)
    refine Ev.step (f := fun q => sleuthlaw19_doubts.l1 q ns ms (w : Int) (List.replicate ns.length false) ((0 : Nat) : Int) ((w + 1 : Nat) : Int)) (fun q => ?_) h1
    rw [sleuthlaw19_doubts.l0, if_neg q2, if_pos q3, Int.toNat_natCast, if_pos q4, hw1]
    rfl
  | succ n ih =>
    intro i hi
    have q1 : (i : Int) < (ns.length : Int) := by omega
    have q2 : (0 : Int) ≤ (i : Int) := by omega
    have q3 : (i : Int) < (ms.length : Int) := by omega
    have ihh := ih (i + 1) (by omega)
    have hw1 := wS' i (by omega)
    refine Ev.step (f := fun q => sleuthlaw19_doubts.l0 q ns ms (lastM ms (i + 1)) ((i + 1 : Nat) : Int)) (fun q => ?_) ihh
    rw [sleuthlaw19_doubts.l0, if_pos q1, if_pos q2, if_pos q3, hw1, lastM]
    by_cases c : rd ms (i : Int) = 2
    · rw [if_pos c, if_pos c]
    · rw [if_neg c, if_neg c]
theorem doubtsL_ev {ns : List Nd} {ms : List Int} (h : marksS ns ms = true) : Ev (fun q => sleuthlaw19_doubts.f q ns ms) (numD ns ms) := doubtsL_l0 h ns.length 0 (by omega)
theorem rd_setF (ms : List Int) (m : Nat) (v : Int) (k : Nat) (h : k ≠ m) : rd (ms.set m v) (k : Int) = rd ms (k : Int) := by
  show List.getD _ _ _ = List.getD _ _ _
  rw [Int.toNat_natCast, List.getD_eq_getElem?_getD, List.getD_eq_getElem?_getD, List.getElem?_set_ne (by omega)]
theorem rd_setS (ms : List Int) (m : Nat) (v : Int) (h : m < ms.length) : rd (ms.set m v) (m : Int) = v := by
  show List.getD _ _ _ = _
  rw [Int.toNat_natCast, List.getD_eq_getElem?_getD, List.getElem?_set_self h]; rfl
theorem fewer {ns : List Nd} {ms : List Int} (h : marksS ns ms = true) (h0 : rd ms 0 = 2) (b : Nat) (hb : b < ns.length) (hb0 : b ≠ 0) (v : Int) (hv : v = 1 ∨ v = 2)
    (ho : openB (dbt ns ms (lastM ms ms.length).toNat ns.length) ms (b : Int) = true) : numD ns (ms.set b v) < numD ns ms := by
  obtain ⟨hm, hl, _⟩ := marksS_spec h
  have hlen := mayT_len hm
  have hr := lastM_range ms ms.length (by omega)
  obtain ⟨s1, s2⟩ := lastM_spec ms h0 ms.length (by omega)
  obtain ⟨w, hw⟩ : ∃ w : Nat, lastM ms ms.length = (w : Int) := ⟨(lastM ms ms.length).toNat, by omega⟩
  rw [hw] at hr s1 s2
  rw [hw, Int.toNat_natCast] at ho
  have ho' := ho
  unfold openB at ho'
  rw [Bool.and_eq_true, beq_iff_eq] at ho'
  obtain ⟨g1, g2, g3, g4⟩ := dbt_spec hm ms w ns.length (Nat.le_refl _) b ho'.1
  have hs0 : rd (ms.set b v) 0 = 2 := by have := rd_setF ms b v 0 (fun e => hb0 e.symm); rw [show ((0 : Nat) : Int) = 0 from rfl] at this; rw [this]; exact h0
  obtain ⟨t1, t2⟩ := lastM_spec (ms.set b v) hs0 (ms.set b v).length (by rw [List.length_set]; omega)
  have hr' := lastM_range (ms.set b v) (ms.set b v).length (by rw [List.length_set]; omega)
  obtain ⟨w', hw'⟩ : ∃ w' : Nat, lastM (ms.set b v) (ms.set b v).length = (w' : Int) := ⟨(lastM (ms.set b v) (ms.set b v).length).toNat, by omega⟩
  rw [hw'] at t1 t2 hr'
  rw [List.length_set] at t2 hr'
  have hself := rd_setS ms b v (by omega)
  have hww : w' = if v = 2 then b else w := by
    rcases hv with rfl | rfl
    · rw [if_neg (by decide)]
      have e1 : w' ≠ b := fun e => by rw [e, hself] at t1; exact absurd t1 (by decide)
      rw [rd_setF ms b 1 w' e1] at t1
      rcases Nat.lt_trichotomy w w' with c | c | c
      · exact absurd t1 (s2 w' (by omega) (by omega))
      · exact c.symm
      · have := t2 w (by omega) (by omega)
        rw [rd_setF ms b 1 w (by omega)] at this
        exact absurd s1 this
    · rw [if_pos rfl]
      rcases Nat.lt_trichotomy b w' with c | c | c
      · rw [rd_setF ms b 2 w' (by omega)] at t1
        exact absurd t1 (s2 w' (by omega) (by omega))
      · exact c.symm
      · exact absurd hself (t2 b (by omega) (by omega))
  have sub : ∀ (n j : Nat), j < n → j < ns.length → rdOf false (dbt ns (ms.set b v) w' ns.length) (j : Int) = true → rdOf false (dbt ns ms w ns.length) (j : Int) = true := by
    intro n
    induction n with
    | zero => intro j hj; omega
    | succ n ih =>
      intro j hj hjl hd
      obtain ⟨k1, k2, k3, k4⟩ := dbt_spec hm (ms.set b v) w' ns.length (Nat.le_refl _) j hd
      have hpj := mayT_pa hm j hjl
      have hjb : j ≠ b ∨ v = 2 := by
        by_cases e : j = b
        · subst e; rw [hself] at k3; rcases hv with rfl | rfl
          · exact absurd rfl k3
          · exact .inr rfl
        · exact .inl e
      by_cases e : j = b
      · subst e; exact ho'.1
      · rw [rd_setF ms b v j e] at k3
        have hwj : w < j := by rw [hww] at k1; split at k1 <;> omega
        refine dbt_intro hm ms w ns.length (Nat.le_refl _) j hwj hjl k3 ?_
        obtain ⟨p, hpp⟩ : ∃ p : Nat, pa ns j = (p : Int) := ⟨(pa ns j).toNat, by omega⟩
        rcases k4 with k | ⟨k, k'⟩
        · by_cases e2 : v = 2
          · rw [hww, if_pos e2] at k
            exact .inr ⟨by omega, by rw [k]; exact ho'.1⟩
          · rw [hww, if_neg e2] at k
            exact .inl k
        · exact .inr ⟨k, by rw [hpp] at k' ⊢; exact ih p (by omega) (by omega) k'⟩
  have key := cntO_less (dbt ns ms w ns.length) (dbt ns (ms.set b v) w' ns.length) ms (ms.set b v) b ho (by
    unfold openB
    rw [hself]
    intro h2
    rw [Bool.and_eq_true, beq_iff_eq] at h2
    rcases hv with rfl | rfl <;> exact absurd h2.2 (by decide)) ns.length hb (fun j hj hop => by
    unfold openB at hop ⊢
    rw [Bool.and_eq_true, beq_iff_eq] at hop ⊢
    have e : j ≠ b := fun e => by subst e; rw [hself] at hop; rcases hv with rfl | rfl <;> exact absurd hop.2 (by decide)
    rw [rd_setF ms b v j e] at hop
    exact ⟨sub (j + 1) j (by omega) hj hop.1, hop.2⟩)
  unfold numD
  rw [hw', hw, Int.toNat_natCast, Int.toNat_natCast]
  omega
theorem askH_fact {ns : List Nd} {ms : List Int} (h : marksS ns ms = true) : ∃ c b : Int, askH ns ms = (c, b) ∧ 0 ≤ b ∧ b < (ns.length : Int) ∧
    (c = 0 → rd ms b = 0 ∧ (b = 0 ∨ (rd ms 0 = 2 ∧ openB (dbt ns ms (lastM ms ms.length).toNat ns.length) ms b = true))) := by
  obtain ⟨hm, hl, hx⟩ := marksS_spec h
  have hlen := mayT_len hm
  unfold askH
  by_cases c2 : rd ms 0 = 2
  · rw [if_pos c2]
    have hr := lastM_range ms ms.length (by omega)
    have hbr := bestH_range (szH ns (dbt ns ms (lastM ms ms.length).toNat ns.length) ms) (dbt ns ms (lastM ms ms.length).toNat ns.length) ms (rd (szH ns (dbt ns ms (lastM ms ms.length).toNat ns.length) ms) (lastM ms ms.length)) ns.length
    have hbs := bestH_spec (szH ns (dbt ns ms (lastM ms ms.length).toNat ns.length) ms) (dbt ns ms (lastM ms ms.length).toNat ns.length) ms (rd (szH ns (dbt ns ms (lastM ms ms.length).toNat ns.length) ms) (lastM ms ms.length)) ns.length
    generalize bestH (szH ns (dbt ns ms (lastM ms ms.length).toNat ns.length) ms) (dbt ns ms (lastM ms ms.length).toNat ns.length) ms (rd (szH ns (dbt ns ms (lastM ms ms.length).toNat ns.length) ms) (lastM ms ms.length)) ns.length = b at hbr hbs
    by_cases cb : b < 0
    · rw [if_pos cb]
      unfold bugS
      split
      · exact ⟨1, _, rfl, by omega, by omega, fun e => absurd e (by decide)⟩
      · exact ⟨3, 0, rfl, by omega, by omega, fun e => absurd e (by decide)⟩
    · rw [if_neg cb]
      have ho := hbs (by omega)
      have ho' := ho
      unfold openB at ho'
      rw [Bool.and_eq_true, beq_iff_eq] at ho'
      exact ⟨0, b, rfl, by omega, by omega, fun _ => ⟨ho'.2, .inr ⟨c2, ho⟩⟩⟩
  · rw [if_neg c2]
    have h00 := marks_at h 0 (by omega)
    rw [show ((0 : Nat) : Int) = 0 from rfl] at h00
    unfold askT
    by_cases c0 : rd ms 0 = 0
    · rw [if_pos c0]; exact ⟨0, 0, rfl, by omega, by omega, fun _ => ⟨c0, .inl rfl⟩⟩
    · rw [if_neg c0]
      by_cases c1 : rd ms 0 = 1
      · rw [if_pos c1]; exact ⟨2, 0, rfl, by omega, by omega, fun e => absurd e (by decide)⟩
      · rw [if_neg c1, if_pos (show rd ms 0 = 3 by omega)]; exact ⟨3, 0, rfl, by omega, by omega, fun e => absurd e (by decide)⟩
theorem marks_set {ns : List Nd} {ms : List Int} (h : marksS ns ms = true) (b : Nat) (v : Int) (hv : v = 1 ∨ v = 2) : marksS ns (ms.set b v) = true := by
  obtain ⟨hm, hl, hx⟩ := marksS_spec h
  unfold marksS
  rw [hm, List.length_set, decide_eq_true hl, Bool.true_and, Bool.true_and, Bool.not_eq_true', List.any_eq_false]
  intro x hx'
  rcases List.mem_or_eq_of_mem_set hx' with hh | hh
  · rw [hx x hh]; exact Bool.false_ne_true
  · subst hh
    rcases hv with rfl | rfl <;> exact Bool.false_ne_true
theorem fewer_j1 {ns : List Nd} {ms : List Int} (h : marksS ns ms = true) (b : Nat) (hb : b < ns.length) (hb2 : rd ms (b : Int) = 0 ∧ ((b : Int) = 0 ∨ (rd ms 0 = 2 ∧ openB (dbt ns ms (lastM ms ms.length).toNat ns.length) ms (b : Int) = true))) (v : Int) (hv : v = 1 ∨ v = 2) (c : Int) :
    Ev (fun q => sleuthlaw19_HalfFewer.j1 q ns ms (ms.set b v) c (b : Int)) true := by
  obtain ⟨hm, hl, _⟩ := marksS_spec h
  have h' := marks_set h b v hv
  obtain ⟨c', b', ea, k0, k1, k2⟩ := askH_fact h'
  have e : nextH ns (ms.set b v) = (c', b', 0) := by unfold nextH; rw [h', if_pos rfl, ea]
  have hself := rd_setS ms b v (by omega)
  refine Ev.step (f := fun q => (half_Next.f q ns (ms.set b v)).bind fun bt514 => ((sleuthlaw0_Num.f bt514.2.2).bind fun t518 => (if t518 = 0 then (if bt514.1 = 0 then (if bt514.2.1 = (b : Int) then (none) else (if (b : Int) = 0 then (some true) else ((sleuthlaw19_doubts.f q ns (ms.set b v)).bind fun t519 => ((sleuthlaw19_doubts.f q ns ms).bind fun t520 => (some (decide (t519 < t520))))))) else (if (b : Int) = 0 then (some true) else ((sleuthlaw19_doubts.f q ns (ms.set b v)).bind fun t521 => ((sleuthlaw19_doubts.f q ns ms).bind fun t522 => (some (decide (t521 < t522))))))) else (none)))) (fun q => by rw [sleuthlaw19_HalfFewer.j1]) ?_
  refine Ev.bind (next_half_ev ns (ms.set b v)) ?_
  rw [e]
  simp only [sleuthlaw0_Num.f, Option.bind_some, if_pos]
  have hend : Ev (fun q => (sleuthlaw19_doubts.f q ns (ms.set b v)).bind fun t519 => ((sleuthlaw19_doubts.f q ns ms).bind fun t520 => (some (decide (t519 < t520))))) true ∨ (b : Int) = 0 := by
    rcases hb2.2 with e0 | ⟨e1, e2⟩
    · exact .inr e0
    · by_cases d : b = 0
      · exact .inr (by omega)
      · refine .inl (Ev.bind (doubtsL_ev h') (Ev.bind (doubtsL_ev h) ?_))
        rw [decide_eq_true (fewer h e1 b hb d v hv e2)]
        exact Ev.now _
  have hne : c' = 0 → ¬ b' = (b : Int) := fun e1 e2 => by
    have := (k2 e1).1
    rw [e2, hself] at this
    rcases hv with rfl | rfl <;> exact absurd this (by decide)
  by_cases d : (b : Int) = 0
  · simp only [if_pos d]
    by_cases f : c' = 0
    · simp only [if_pos f, if_neg (hne f)]; exact Ev.now _
    · simp only [if_neg f]; exact Ev.now _
  · simp only [if_neg d]
    have hend' := hend.resolve_right d
    by_cases f : c' = 0
    · simp only [if_pos f, if_neg (hne f)]; exact hend'
    · simp only [if_neg f]; exact hend'
theorem halfFewer_pure (l0 : List Nd) (l1 : List Int) (a2 : Bool) (h0 : fineN l0) (h1 : fineI l1) : ∃ k, sleuthlaw19_HalfFewer.f k l0 l1 a2 = some true := by
  refine evRounds (g := fun k => sleuthlaw19_HalfFewer.f k l0 l1 a2) ?_
  have hok := h0.ok
  have hl9 : l1.length ≤ 9223372036854775806 := by have := h1.1; omega
  unfold sleuthlaw19_HalfFewer.f
  refine Ev.bind halfAwake_ev ?_
  simp only [if_pos]
  refine Ev.bind (next_half_ev l0 l1) ?_
  cases hm : marksS l0 l1 with
  | false =>
    have e : nextH l0 l1 = (0, 0, 1900) := by unfold nextH; rw [hm, if_neg Bool.false_ne_true]
    rw [e]
    simp only [sleuthlaw0_Num.f, Option.bind_some, if_neg (show ¬ (1900 : Int) = 0 by omega)]
    refine Ev.step (f := fun _ => some true) (fun q => ?_) (Ev.now _)
    rw [sleuthlaw19_HalfFewer.j0, if_pos rfl]
    simp only [sleuthlaw0_Num.f, Option.bind_some, if_neg (show ¬ (1900 : Int) = 0 by omega)]
  | true =>
    obtain ⟨hmay, hl, hx⟩ := marksS_spec hm
    have hlen := mayT_len hmay
    obtain ⟨c, b, ea, k0, k1, k2⟩ := askH_fact hm
    have e : nextH l0 l1 = (c, b, 0) := by unfold nextH; rw [hm, if_pos rfl, ea]
    rw [e]
    simp only [sleuthlaw0_Num.f, Option.bind_some, if_pos]
    by_cases f : c = 0
    · simp only [if_pos f]
      refine Ev.bind (refMarks_ev l0 hok l1 hl9) ?_
      rw [hm]
      have g1 : ¬ b < 0 := by omega
      simp only [if_pos, if_neg g1, decide_eq_false (show ¬ b ≥ (l0.length : Int) by omega)]
      obtain ⟨j, rfl⟩ : ∃ j : Nat, b = (j : Int) := ⟨b.toNat, by omega⟩
      have q1 : ([] : List Int).length + l1.length < 17592186044416 := by simp; omega
      have q2 : (0 : Int) ≤ (j : Int) := k0
      have q3 : (j : Int) < (([] ++ l1 : List Int).length : Int) := by rw [List.nil_append]; omega
      cases a2 with
      | true =>
        refine Ev.step (f := fun q => sleuthlaw19_HalfFewer.j1 q l0 l1 (l1.set j 1) c (j : Int)) (fun q => ?_) (fewer_j1 hm j (by omega) (k2 f) 1 (.inl rfl) c)
        rw [sleuthlaw19_HalfFewer.j0, if_neg Bool.false_ne_true]
        simp only [Option.bind_some, if_pos q1, if_pos q2, if_pos q3, if_pos, List.nil_append, Int.toNat_natCast, List.set_set]
        rw [if_pos (show (j : Int) < (l1.length : Int) by omega)]
      | false =>
        refine Ev.step (f := fun q => sleuthlaw19_HalfFewer.j1 q l0 l1 (l1.set j 2) c (j : Int)) (fun q => ?_) (fewer_j1 hm j (by omega) (k2 f) 2 (.inr rfl) c)
        rw [sleuthlaw19_HalfFewer.j0, if_neg Bool.false_ne_true]
        simp only [Option.bind_some, if_pos q1, if_pos q2, if_pos q3, if_neg Bool.false_ne_true, List.nil_append, Int.toNat_natCast]
        rw [if_pos (show (j : Int) < (l1.length : Int) by omega)]
    · simp only [if_neg f]
      refine Ev.step (f := fun _ => some true) (fun q => ?_) (Ev.now _)
      rw [sleuthlaw19_HalfFewer.j0, if_pos rfl]
      simp only [sleuthlaw0_Num.f, Option.bind_some, if_pos]
      rw [bne_iff_ne.2 f]
end Go.Proofs.YtpbobdgenjhjoaaDoor.G
