/- The law HalfAsks of package half, as a plain statement about what the program and the document compute. -/
import Derived.Test.YtpbobdgenjhjoaaDoorHalfWake
import Derived.Test.YtpbobdgenjhjoaaDoorG34
namespace Go.Proofs.YtpbobdgenjhjoaaDoor.G
open Go.RowKit Go.Proofs.YtpbobdgenjhjoaaDoorW.PrintWords Go.Proofs.YtpbobdgenjhjoaaDoorW.PrintLast Go.Proofs.YtpbobdgenjhjoaaDoorW.PrintMore
set_option linter.unusedVariables false
set_option linter.unusedSimpArgs false
theorem lastM_spec (ms : List Int) (h0 : rd ms 0 = 2) : ∀ n : Nat, 0 < n → rd ms (lastM ms n) = 2 ∧ ∀ j : Nat, lastM ms n < (j : Int) → j < n → rd ms (j : Int) ≠ 2
  | 0, h => absurd h (by omega)
  | n + 1, _ => by
    rw [lastM]
    by_cases c : rd ms (n : Int) = 2
    · rw [if_pos c]
      exact ⟨c, fun j h1 h2 => by omega⟩
    · rw [if_neg c]
      rcases Nat.eq_zero_or_pos n with d | d
      · subst d; exact absurd h0 c
      · obtain ⟨h1, h2⟩ := lastM_spec ms h0 n d
        refine ⟨h1, fun j h3 h4 => ?_⟩
        by_cases e : j = n
        · subst e; exact c
        · exact h2 j h3 (by omega)
theorem bestH_spec (sz : List Int) (d : List Bool) (ms : List Int) (m : Int) : ∀ n : Nat, 0 ≤ bestH sz d ms m n → openB d ms (bestH sz d ms m n) = true
  | 0, h => absurd h (by show ¬ (0 : Int) ≤ -1; omega)
  | n + 1, h => by
    rw [bestH] at h ⊢
    by_cases c : openB d ms (n : Int) = true ∧ (bestH sz d ms m n < 0 ∨ offW (rd sz (n : Int)) m < offW (rd sz (bestH sz d ms m n)) m)
    · rw [if_pos c]; exact c.1
    · rw [if_neg c] at h ⊢
      exact bestH_spec sz d ms m n h
theorem rdOf_set (l : List Bool) (i j : Nat) (v : Bool) : rdOf false (l.set i v) (j : Int) = if j = i ∧ i < l.length then v else rdOf false l (j : Int) := by
  show List.getD _ _ _ = if _ then _ else List.getD _ _ _
  rw [Int.toNat_natCast, List.getD_eq_getElem?_getD, List.getD_eq_getElem?_getD, List.getElem?_set]
  by_cases c : i = j
  · subst c
    by_cases d : i < l.length
    · rw [if_pos rfl, if_pos d, if_pos ⟨rfl, d⟩]; rfl
    · rw [if_pos rfl, if_neg d, if_neg (fun h => d h.2), List.getElem?_eq_none (by omega)]
  · rw [if_neg c, if_neg (fun h => c h.1.symm)]
theorem rdOf_rep (n : Nat) (j : Int) : rdOf false (List.replicate n false) j = false := by
  show List.getD _ _ _ = _
  rw [List.getD_eq_getElem?_getD, List.getElem?_replicate]
  split <;> rfl
theorem dbt_spec {ns : List Nd} (hm : mayT ns = true) (ms : List Int) (w : Nat) : ∀ n : Nat, n ≤ ns.length → ∀ j : Nat, rdOf false (dbt ns ms w n) (j : Int) = true → w < j ∧ j < n ∧ rd ms (j : Int) ≠ 1 ∧ (pa ns j = (w : Int) ∨ (0 ≤ pa ns j ∧ rdOf false (dbt ns ms w n) (pa ns j) = true))
  | 0, _, j, h => by rw [dbt, rdOf_rep] at h; cases h
  | n + 1, hn, j, h => by
    rw [dbt] at h
    by_cases c : n ≤ w
    · rw [if_pos c, dbt_low ns ms w n (by omega), rdOf_rep] at h; cases h
    · rw [if_neg c, rdOf_set] at h
      have hp := mayT_pa hm n (by omega)
      by_cases e : j = n ∧ n < (dbt ns ms w n).length
      · rw [if_pos e] at h
        obtain ⟨rfl, he⟩ := e
        rw [Bool.and_eq_true, Bool.or_eq_true, decide_eq_true_iff, bne_iff_ne] at h
        refine ⟨by omega, by omega, h.2, h.1.elim .inl fun hh => .inr ⟨by omega, ?_⟩⟩
        obtain ⟨p, hpp⟩ : ∃ p : Nat, pa ns j = (p : Int) := ⟨(pa ns j).toNat, by omega⟩
        rw [dbt, if_neg c, hpp, rdOf_set, if_neg (by omega), ← hpp]
        exact hh
      · rw [if_neg e] at h
        obtain ⟨h1, h2, h3, h4⟩ := dbt_spec hm ms w n (by omega) j h
        refine ⟨h1, by omega, h3, h4.elim .inl fun hh => .inr ⟨hh.1, ?_⟩⟩
        have hpj := mayT_pa hm j (by omega)
        obtain ⟨p, hpp⟩ : ∃ p : Nat, pa ns j = (p : Int) := ⟨(pa ns j).toNat, by omega⟩
        rw [dbt, if_neg c, hpp, rdOf_set, if_neg (by omega), ← hpp]
        exact hh.2
theorem up_l1 {ns : List Nd} {ms : List Int} (hm : mayT ns = true) (hl : ms.length = ns.length) (w : Nat) (hw : w < ns.length) (h2 : rd ms (w : Int) = 2) (b : Int) : ∀ (n j : Nat), j < n → n ≤ ns.length → (j = w ∨ rdOf false (dbt ns ms w ns.length) (j : Int) = true) → Ev (fun q => sleuthlaw19_HalfAsks.l1 q ns ms (j : Int) 0 b) true := by
  intro n
  induction n with
  | zero => intro j hj; omega
  | succ n ih =>
    intro j hj hn hd
    by_cases c2 : rd ms (j : Int) = 2
    · refine Ev.step (f := fun _ => some true) (fun q => ?_) (Ev.now _)
      rw [sleuthlaw19_HalfAsks.l1, if_pos (by omega), if_pos (by omega), if_pos (by omega), if_neg (by omega), if_pos c2]; rfl
    · rcases hd with hd | hd
      · subst hd; exact absurd h2 c2
      · obtain ⟨g1, g2, g3, g4⟩ := dbt_spec hm ms w ns.length (Nat.le_refl _) j hd
        have hp := mayT_pa hm j (by omega)
        obtain ⟨p, hpp⟩ : ∃ p : Nat, pa ns j = (p : Int) := ⟨(pa ns j).toNat, by omega⟩
        have hp' : (rd_T41 ns (j : Int)).f1 = (p : Int) := hpp
        refine Ev.step (f := fun q => sleuthlaw19_HalfAsks.l1 q ns ms (p : Int) 0 b) (fun q => ?_) (ih p (by omega) (by omega) (g4.elim (fun h => .inl (by omega)) fun h => .inr (by rw [← hpp]; exact h.2)))
        rw [sleuthlaw19_HalfAsks.l1, if_pos (by omega), if_pos (by omega), if_pos (by omega), if_neg g3, if_neg c2, if_pos (by omega), hp']
theorem halfAsks_l0 {ns : List Nd} {ms : List Int} (hl : ms.length = ns.length) (h512 : ns.length ≤ 512) (b : Int) (h0 : 0 ≤ b) (h1 : b < (ns.length : Int)) (hb : rd ms b = 2) (hk : ∀ i : Nat, i < ns.length → (rn ns (i : Int)).f1 = b → rd ms (i : Int) = 1) (hlast : ∀ j : Nat, b < (j : Int) → j < ns.length → rd ms (j : Int) ≠ 2) (c : Int) : ∀ n i : Nat, i + n = ns.length → Ev (fun q => sleuthlaw19_HalfAsks.l0 q ns ms (i : Int) c b) true := by
  intro n
  induction n with
  | zero =>
    intro i hi
    refine Ev.step (f := fun _ => some true) (fun q => ?_) (Ev.now _)
    rw [sleuthlaw19_HalfAsks.l0, if_neg (by omega), if_pos h0, if_pos (by omega), hb]; rfl
  | succ n ih =>
    intro i hi
    have hw : wrap64 ((i : Int) + 1) = ((i + 1 : Nat) : Int) := by rw [w64 (by omega) (by omega)]; omega
    refine Ev.step (f := fun q => sleuthlaw19_HalfAsks.l0 q ns ms ((i + 1 : Nat) : Int) c b) (fun q => ?_) (ih (i + 1) (by omega))
    rw [sleuthlaw19_HalfAsks.l0, if_pos (by omega), if_pos (by omega), hw]
    by_cases d : (rn ns (i : Int)).f1 = b
    · have hk1 := hk i (by omega) d
      rw [if_pos d, if_pos (by omega), if_pos hk1]
      by_cases e : (i : Int) > b
      · rw [if_pos e, if_neg (hlast i e (by omega))]
      · rw [if_neg e]
    · rw [if_neg d]
      by_cases e : (i : Int) > b
      · rw [if_pos e, if_pos (by omega), if_neg (hlast i e (by omega))]
      · rw [if_neg e]
theorem asksH_end {ns : List Nd} {ms : List Int} (h : marksS ns ms = true) : ∃ c b : Int, askH ns ms = (c, b) ∧ 0 ≤ b ∧ b < (ns.length : Int) ∧ Ev (fun q => sleuthlaw19_HalfAsks.j1 q ns ms false c b) true := by
  obtain ⟨hm, hl, hx⟩ := marksS_spec h
  have hlen := mayT_len hm
  have h00 := marks_at h 0 (by omega)
  rw [show ((0 : Nat) : Int) = 0 from rfl] at h00
  have hp0 := mayT_pa hm 0 (by omega)
  have hp0' : (rd_T41 ns 0).f1 = pa ns 0 := rfl
  unfold askH
  by_cases c2 : rd ms 0 = 2
  · rw [if_pos c2]
    obtain ⟨s1, s2⟩ := lastM_spec ms c2 ms.length (by omega)
    have hr := lastM_range ms ms.length (by omega)
    obtain ⟨w, hw⟩ : ∃ w : Nat, lastM ms ms.length = (w : Int) := ⟨(lastM ms ms.length).toNat, by omega⟩
    rw [hw] at s1 s2 hr ⊢
    rw [Int.toNat_natCast]
    have hbr := bestH_range (szH ns (dbt ns ms w ns.length) ms) (dbt ns ms w ns.length) ms (rd (szH ns (dbt ns ms w ns.length) ms) (w : Int)) ns.length
    have hbs := bestH_spec (szH ns (dbt ns ms w ns.length) ms) (dbt ns ms w ns.length) ms (rd (szH ns (dbt ns ms w ns.length) ms) (w : Int)) ns.length
    generalize bestH (szH ns (dbt ns ms w ns.length) ms) (dbt ns ms w ns.length) ms (rd (szH ns (dbt ns ms w ns.length) ms) (w : Int)) ns.length = b at hbr hbs
    by_cases cb : b < 0
    · rw [if_pos cb]
      unfold bugS
      by_cases ca : ((kidsTo ns (w : Int) ns.length).all fun k => rd ms k == 1) = true
      · simp only [if_pos ca]
        refine ⟨1, (w : Int), rfl, by omega, by omega, ?_⟩
        refine Ev.step (f := fun q => sleuthlaw19_HalfAsks.l0 q ns ms 0 1 (w : Int)) (fun q => ?_) (halfAsks_l0 hl hlen.2 (w : Int) (by omega) (by omega) s1 (fun i hi hp => ?_) (fun j h1 h2 => s2 j h1 (by omega)) 1 ns.length 0 (by omega))
        · rw [sleuthlaw19_HalfAsks.j1, if_neg Bool.false_ne_true, if_neg (by omega), if_neg (by omega), if_pos rfl]
        · have hpa := mayT_pa hm i hi
          have hp' : pa ns i = (w : Int) := hp
          have := List.all_eq_true.1 ca _ (kidsTo_in ns (w : Int) i ns.length hi (by omega) hp)
          simpa using this
      · simp only [if_neg ca]
        refine ⟨3, 0, rfl, by omega, by omega, Ev.step (f := fun _ => some true) (fun q => ?_) (Ev.now _)⟩
        rw [sleuthlaw19_HalfAsks.j1, if_neg Bool.false_ne_true, if_neg (by omega), if_pos rfl]; rfl
    · rw [if_neg cb]
      obtain ⟨j, rfl⟩ : ∃ j : Nat, b = (j : Int) := ⟨b.toNat, by omega⟩
      have ho := hbs (by omega)
      unfold openB at ho
      rw [Bool.and_eq_true, beq_iff_eq] at ho
      obtain ⟨g1, g2, g3, g4⟩ := dbt_spec hm ms w ns.length (Nat.le_refl _) j ho.1
      have hp := mayT_pa hm j (by omega)
      obtain ⟨p, hpp⟩ : ∃ p : Nat, pa ns j = (p : Int) := ⟨(pa ns j).toNat, by omega⟩
      have hp' : (rd_T41 ns (j : Int)).f1 = (p : Int) := hpp
      refine ⟨0, (j : Int), rfl, by omega, by omega, ?_⟩
      refine Ev.step (f := fun q => sleuthlaw19_HalfAsks.l1 q ns ms (p : Int) 0 (j : Int)) (fun q => ?_) (up_l1 hm hl w (by omega) s1 (j : Int) ns.length p (by omega) (Nat.le_refl _) (g4.elim (fun h => .inl (by omega)) fun h => .inr (by rw [← hpp]; exact h.2)))
      rw [sleuthlaw19_HalfAsks.j1, if_neg Bool.false_ne_true, if_neg (by omega), if_neg (by omega), if_neg (by omega), if_pos (by omega), if_pos (by omega), if_pos ho.2, if_pos (by omega), hp']
  · rw [if_neg c2]
    unfold askT
    by_cases c0 : rd ms 0 = 0
    · rw [if_pos c0]
      refine ⟨0, 0, rfl, by omega, by omega, ?_⟩
      refine Ev.step (f := fun q => sleuthlaw19_HalfAsks.l1 q ns ms (-1) 0 0) (fun q => ?_) (Ev.step (f := fun _ => some true) (fun q => ?_) (Ev.now _))
      · rw [sleuthlaw19_HalfAsks.j1, if_neg Bool.false_ne_true, if_neg (by omega), if_neg (by omega), if_neg (by omega), if_pos (by omega), if_pos (by omega), if_pos c0, if_pos (by omega), hp0', show pa ns 0 = -1 by omega]
      · rw [sleuthlaw19_HalfAsks.l1, if_neg (by omega), if_pos rfl]; rfl
    · rw [if_neg c0]
      by_cases c1 : rd ms 0 = 1
      · rw [if_pos c1]
        refine ⟨2, 0, rfl, by omega, by omega, Ev.step (f := fun _ => some true) (fun q => ?_) (Ev.now _)⟩
        rw [sleuthlaw19_HalfAsks.j1, if_neg Bool.false_ne_true, if_pos rfl, if_pos (by omega), if_pos c1]; rfl
      · rw [if_neg c1, if_pos (show rd ms 0 = 3 by omega)]
        refine ⟨3, 0, rfl, by omega, by omega, Ev.step (f := fun _ => some true) (fun q => ?_) (Ev.now _)⟩
        rw [sleuthlaw19_HalfAsks.j1, if_neg Bool.false_ne_true, if_neg (by omega), if_pos rfl]; rfl
theorem halfAsks_pure (l0 : List Nd) (l1 : List Int) (h0 : fineN l0) (h1 : fineI l1) : ∃ k, sleuthlaw19_HalfAsks.f k l0 l1 = some true := by
  refine evRounds (g := fun k => sleuthlaw19_HalfAsks.f k l0 l1) ?_
  have hok := h0.ok
  have hl9 : l1.length ≤ 9223372036854775806 := by have := h1.1; omega
  unfold sleuthlaw19_HalfAsks.f
  refine Ev.bind halfAwake_ev ?_
  simp only [if_pos]
  refine Ev.bind (next_half_ev l0 l1) ?_
  cases hm : marksS l0 l1 with
  | false =>
    have e : nextH l0 l1 = (0, 0, 1900) := by unfold nextH; rw [hm, if_neg Bool.false_ne_true]
    rw [e]
    simp only [sleuthlaw0_Num.f, Option.bind_some, if_neg (show ¬ (1900 : Int) = 0 by omega)]
    refine Ev.step (f := fun q => (sleuthref12_MarksMay.f q l0 l1).bind fun t400 => (some (!t400))) (fun q => ?_) ?_
    · rw [sleuthlaw19_HalfAsks.j0, if_pos rfl]
      simp only [sleuthlaw0_Num.f, Option.bind_some, if_neg (show ¬ (1900 : Int) = 0 by omega), BEq.rfl, Bool.and_self, if_pos]
    · refine Ev.bind (refMarks_ev l0 hok l1 hl9) ?_
      rw [hm]; exact Ev.now _
  | true =>
    obtain ⟨c, b, ea, hb0, hb1, hev⟩ := asksH_end hm
    have e : nextH l0 l1 = (c, b, 0) := by unfold nextH; rw [hm, if_pos rfl, ea]
    rw [e]
    simp only [sleuthlaw0_Num.f, Option.bind_some, if_pos]
    refine Ev.bind (refMarks_ev l0 hok l1 hl9) ?_
    rw [hm]
    refine Ev.step (f := fun q => sleuthlaw19_HalfAsks.j1 q l0 l1 false c b) (fun q => ?_) hev
    rw [sleuthlaw19_HalfAsks.j0, Bool.not_true, if_neg Bool.false_ne_true, if_neg (by omega), decide_eq_false (show ¬ b ≥ (l0.length : Int) by omega)]
end Go.Proofs.YtpbobdgenjhjoaaDoor.G
