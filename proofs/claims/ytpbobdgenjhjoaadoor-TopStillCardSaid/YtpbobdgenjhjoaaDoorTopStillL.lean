/- The law TopStill of package top, as a plain statement about what the program computes. -/
import Derived.Test.YtpbobdgenjhjoaaDoorU9
import Derived.Test.YtpbobdgenjhjoaaDoorG30
namespace Go.Proofs.YtpbobdgenjhjoaaDoor.G
open Go.RowKit Go.Proofs.YtpbobdgenjhjoaaDoorW.PrintWords Go.Proofs.YtpbobdgenjhjoaaDoorW.PrintLast Go.Proofs.YtpbobdgenjhjoaaDoorW.PrintMore
set_option linter.unusedVariables false
set_option linter.unusedSimpArgs false
/-- from i on up, as far as the root, every node is wrong -/
def allW (ns : List Nd) (ms : List Int) : Nat → Int → Prop
  | 0, _ => True
  | n + 1, i => 0 < i → rd ms i = 2 ∧ allW ns ms n (rn ns i).f1
def wrongUp (ns : List Nd) (ms : List Int) (i : Int) : Prop := ∀ n, allW ns ms n i
theorem wrongUp_zero (ns : List Nd) (ms : List Int) (i : Int) (h : ¬ 0 < i) : wrongUp ns ms i
  | 0 => trivial
  | n + 1 => fun hh => absurd hh h
theorem wrongUp_kid {ns : List Nd} {ms : List Int} {a k : Int} (h : wrongUp ns ms a) (h1 : (rn ns k).f1 = a) (h2 : rd ms k = 2) : wrongUp ns ms k
  | 0 => trivial
  | n + 1 => fun _ => ⟨h2, by rw [h1]; exact h n⟩
theorem wrongUp_up {ns : List Nd} {ms : List Int} {i : Int} (h : wrongUp ns ms i) (h0 : 0 < i) : rd ms i = 2 ∧ wrongUp ns ms (rn ns i).f1 := ⟨((h 1) h0).1, fun n => ((h (n + 1)) h0).2⟩
theorem rd_set (ms : List Int) (m : Nat) (v k : Int) (hk : 0 ≤ k) (h : k ≠ (m : Int)) : rd (ms.set m v) k = rd ms k := by
  show List.getD _ _ _ = List.getD _ _ _
  rw [List.getD_eq_getElem?_getD, List.getD_eq_getElem?_getD, List.getElem?_set_ne (by omega)]
theorem find_congr {p q : Int → Bool} : ∀ l : List Int, (∀ x ∈ l, p x = q x) → l.find? p = l.find? q
  | [], _ => rfl
  | x :: l, h => by
    rw [List.find?_cons, List.find?_cons, h x (List.mem_cons_self ..), find_congr l (fun y hy => h y (List.mem_cons_of_mem _ hy))]
theorem all_congr {p q : Int → Bool} : ∀ l : List Int, (∀ x ∈ l, p x = q x) → l.all p = l.all q
  | [], _ => rfl
  | x :: l, h => by
    rw [List.all_cons, List.all_cons, h x (List.mem_cons_self ..), all_congr l (fun y hy => h y (List.mem_cons_of_mem _ hy))]
section
variable {ns : List Nd} {ms : List Int} {m : Nat} {v : Int}
theorem kids_same (hw : ¬ wrongUp ns ms (pa ns m)) {a : Int} (h0 : 0 ≤ a) (ha : wrongUp ns ms a) (x : Int) (hx : x ∈ kidsTo ns a ns.length) : rd (ms.set m v) x = rd ms x := by
  have h := kidsTo_rng ns a x ns.length hx
  refine rd_set ms m v x (by omega) (fun e => hw ?_)
  have : pa ns m = a := by show (rn ns (m : Int)).f1 = a; rw [← e]; exact h.2.2
  rw [this]; exact ha
theorem fstK_same (hw : ¬ wrongUp ns ms (pa ns m)) {a : Int} (h0 : 0 ≤ a) (ha : wrongUp ns ms a) (y : Int) : fstK ns (ms.set m v) a y = fstK ns ms a y := by
  unfold fstK
  exact find_congr _ fun x hx => by rw [kids_same hw h0 ha x hx]
theorem bugS_same (hw : ¬ wrongUp ns ms (pa ns m)) {a : Int} (h0 : 0 ≤ a) (ha : wrongUp ns ms a) : bugS ns (ms.set m v) a = bugS ns ms a := by
  unfold bugS
  rw [all_congr (p := fun k => rd (ms.set m v) k == 1) (q := fun k => rd ms k == 1) _ fun x hx => by rw [kids_same hw h0 ha x hx]]
theorem downT_same (hw : ¬ wrongUp ns ms (pa ns m)) : ∀ (n : Nat) (a : Int), 0 ≤ a → wrongUp ns ms a → downT ns (ms.set m v) n a = downT ns ms n a ∧ 0 ≤ downT ns ms n a ∧ wrongUp ns ms (downT ns ms n a)
  | 0, a, h0, ha => ⟨rfl, h0, ha⟩
  | n + 1, a, h0, ha => by
    rw [downT, downT, fstK_same hw h0 ha]
    cases hf : fstK ns ms a 2 with
    | some k =>
      have hk := fstK_spec hf
      exact downT_same hw n k (by omega) (wrongUp_kid ha hk.2.2.1 hk.2.2.2)
    | none => exact ⟨rfl, h0, ha⟩
theorem askT_same (hm : m ≠ 0) (h : rd ms 0 ≠ 2 ∨ ¬ wrongUp ns ms (pa ns m)) (hr : 0 ≤ rd ms 0 ∧ rd ms 0 ≤ 3) : askT ns (ms.set m v) = askT ns ms := by
  unfold askT
  rw [rd_set ms m v 0 (by omega) (by omega)]
  by_cases c0 : rd ms 0 = 0
  · rw [if_pos c0, if_pos c0]
  · rw [if_neg c0, if_neg c0]
    by_cases c1 : rd ms 0 = 1
    · rw [if_pos c1, if_pos c1]
    · rw [if_neg c1, if_neg c1]
      by_cases c3 : rd ms 0 = 3
      · rw [if_pos c3, if_pos c3]
      · rw [if_neg c3, if_neg c3]
        have hw : ¬ wrongUp ns ms (pa ns m) := by
          rcases h with h | h
          · exact absurd (show rd ms 0 = 2 by omega) h
          · exact h
        have hd := downT_same (v := v) hw ns.length 0 (by omega) (wrongUp_zero ns ms 0 (by omega))
        rw [hd.1]
        unfold finT
        rw [fstK_same hw hd.2.1 hd.2.2, bugS_same hw hd.2.1 hd.2.2]
end
theorem still_end {ns : List Nd} {ms ms' : List Int} (h : marksS ns ms = true) (h' : marksS ns ms' = true) (m : Nat) (u : Bool) (i : Int) (hi : ¬ i > 0) (hok : (u = false ∧ rd ms 0 = 2) ∨ m = 0 ∨ askT ns ms' = askT ns ms) : Ev (fun q => sleuthlaw18_TopStill.l0 q ns ms (m : Int) ms' u i) true := by
  obtain ⟨hm, hl, _⟩ := marksS_spec h
  have hlen := mayT_len hm
  have e1 : nextT ns ms = ((askT ns ms).1, (askT ns ms).2, 0) := by unfold nextT; rw [if_pos h]
  have e2 : nextT ns ms' = ((askT ns ms').1, (askT ns ms').2, 0) := by unfold nextT; rw [if_pos h']
  refine Ev.step (f := fun q => (top_Next.f q ns ms).bind fun bt467 => ((top_Next.f q ns ms').bind fun bt471 => ((sleuthlaw0_Num.f bt467.2.2).bind fun t475 => (if t475 = 0 then ((sleuthlaw0_Num.f bt471.2.2).bind fun t476 => (if t476 = 0 then (if u = true then (if (m : Int) = 0 then (some true) else (some (bt467.1 == bt471.1 && (bt467.2.1 == bt471.2.1)))) else (if 0 < (ms.length : Int) then (if (rd ms 0) = 2 then (some true) else (if (m : Int) = 0 then (some true) else (some (bt467.1 == bt471.1 && (bt467.2.1 == bt471.2.1))))) else (none))) else (none))) else (none))))) (fun q => ?_) ?_
  · rw [sleuthlaw18_TopStill.l0, if_neg hi]
  · refine Ev.bind (next_top_ev ns ms) (Ev.bind (next_top_ev ns ms') ?_)
    rw [e1, e2]
    have g : (0 : Int) < (ms.length : Int) := by omega
    simp only [sleuthlaw0_Num.f, Option.bind_some, if_pos, if_pos g]
    cases u with
    | true =>
      simp only [if_pos]
      rcases hok with ⟨hh, _⟩ | hh | hh
      · cases hh
      · subst hh; simp only [if_pos (show (((0 : Nat) : Int)) = 0 from rfl)]; exact Ev.now _
      · by_cases c : (m : Int) = 0
        · simp only [if_pos c]; exact Ev.now _
        · simp only [if_neg c, hh, BEq.rfl, Bool.and_self]; exact Ev.now _
    | false =>
      simp only [if_neg Bool.false_ne_true]
      by_cases c2 : rd ms 0 = 2
      · simp only [if_pos c2]; exact Ev.now _
      · simp only [if_neg c2]
        rcases hok with ⟨_, hh⟩ | hh | hh
        · exact absurd hh c2
        · subst hh; simp only [if_pos (show (((0 : Nat) : Int)) = 0 from rfl)]; exact Ev.now _
        · by_cases c : (m : Int) = 0
          · simp only [if_pos c]; exact Ev.now _
          · simp only [if_neg c, hh, BEq.rfl, Bool.and_self]; exact Ev.now _
theorem still_any {ns : List Nd} {ms ms' : List Int} (h : marksS ns ms = true) (h' : marksS ns ms' = true) (m : Nat) (hok : m = 0 ∨ askT ns ms' = askT ns ms) : ∀ (n : Nat) (i : Int) (u : Bool), i < (n : Int) → n ≤ ns.length → Ev (fun q => sleuthlaw18_TopStill.l0 q ns ms (m : Int) ms' u i) true := by
  obtain ⟨hm, hl, _⟩ := marksS_spec h
  intro n
  induction n with
  | zero => intro i u hi _; exact still_end h h' m u i (by omega) (.inr hok)
  | succ n ih =>
    intro i u hi hn
    by_cases c : i > 0
    · obtain ⟨b, rfl⟩ : ∃ b : Nat, i = (b : Int) := ⟨i.toNat, by omega⟩
      have hp := mayT_pa hm b (by omega)
      have hp' : (rd_T41 ns (b : Int)).f1 = pa ns b := rfl
      obtain ⟨u', hu⟩ : ∃ u', ∀ q, sleuthlaw18_TopStill.l0 (q + 1) ns ms (m : Int) ms' u (b : Int) = sleuthlaw18_TopStill.l0 q ns ms (m : Int) ms' u' (pa ns b) := by
        cases u with
        | true => exact ⟨true, fun q => by rw [sleuthlaw18_TopStill.l0, if_pos c, if_pos rfl, if_pos (by omega), if_pos (by omega), hp']⟩
        | false =>
          by_cases c1 : rd ms (b : Int) = 1
          · exact ⟨true, fun q => by rw [sleuthlaw18_TopStill.l0, if_pos c, if_neg Bool.false_ne_true, if_pos (by omega), if_pos (by omega), if_pos c1, if_pos (by omega), hp']⟩
          · by_cases c0 : rd ms (b : Int) = 0
            · exact ⟨true, fun q => by rw [sleuthlaw18_TopStill.l0, if_pos c, if_neg Bool.false_ne_true, if_pos (by omega), if_pos (by omega), if_neg c1, if_pos c0, if_pos (by omega), hp']⟩
            · exact ⟨(rd ms (b : Int)) == 3, fun q => by rw [sleuthlaw18_TopStill.l0, if_pos c, if_neg Bool.false_ne_true, if_pos (by omega), if_pos (by omega), if_neg c1, if_neg c0, if_pos (by omega), hp']⟩
      exact Ev.step (f := fun q => sleuthlaw18_TopStill.l0 q ns ms (m : Int) ms' u' (pa ns b)) hu (ih (pa ns b) u' (by omega) (by omega))
    · exact still_end h h' m u i c (.inr hok)
theorem still_wrong {ns : List Nd} {ms ms' : List Int} (h : marksS ns ms = true) (h' : marksS ns ms' = true) (m : Nat) (h0 : rd ms 0 = 2) : ∀ (n : Nat) (i : Int), i < (n : Int) → n ≤ ns.length → wrongUp ns ms i → Ev (fun q => sleuthlaw18_TopStill.l0 q ns ms (m : Int) ms' false i) true := by
  obtain ⟨hm, hl, _⟩ := marksS_spec h
  intro n
  induction n with
  | zero => intro i hi _ _; exact still_end h h' m false i (by omega) (.inl ⟨rfl, h0⟩)
  | succ n ih =>
    intro i hi hn hw
    by_cases c : i > 0
    · obtain ⟨b, rfl⟩ : ∃ b : Nat, i = (b : Int) := ⟨i.toNat, by omega⟩
      have hp := mayT_pa hm b (by omega)
      obtain ⟨g2, gw⟩ := wrongUp_up hw c
      refine Ev.step (f := fun q => sleuthlaw18_TopStill.l0 q ns ms (m : Int) ms' false (pa ns b)) (fun q => ?_) (ih (pa ns b) (by omega) (by omega) gw)
      rw [sleuthlaw18_TopStill.l0, if_pos c, if_neg Bool.false_ne_true, if_pos (by omega), if_pos (by omega), if_neg (by omega), if_neg (by omega), if_pos (by omega), g2]
      rfl
    · exact still_end h h' m false i c (.inl ⟨rfl, h0⟩)
theorem topStill_pure (l0 : List Nd) (l1 : List Int) (a2 a3 : Int) (h0 : fineN l0) (h1 : fineI l1) (h2 : (Lit.int .i64 a2).wf = true) (h3 : (Lit.int .i64 a3).wf = true) : ∃ k, sleuthlaw18_TopStill.f k l0 l1 a2 a3 = some true := by
  refine Ev.rounds (g := fun k => sleuthlaw18_TopStill.f k l0 l1 a2 a3) ?_
  have hok := h0.ok
  have hl9 : l1.length ≤ 9223372036854775806 := by have := h1.1; omega
  unfold sleuthlaw18_TopStill.f
  refine Ev.bind topAwake_ev ?_
  simp only [if_pos]
  refine Ev.bind (refMarks_ev l0 hok l1 hl9) ?_
  cases hm : marksS l0 l1 with
  | false => simp only [if_neg Bool.false_ne_true]; exact Ev.now _
  | true =>
    obtain ⟨hmay, hl, hx⟩ := marksS_spec hm
    have hlen := mayT_len hmay
    obtain ⟨eu, m, hml, em⟩ := umod a2 l0.length hlen.1 hlen.2
    obtain ⟨v, hv, ev⟩ := bits_nat a3 3 (by omega)
    rw [show ((3 : Nat) : Int) = 3 from rfl] at ev
    have g0 : ¬ (l0.length : Int) = 0 := by omega
    have g1 : ([] : List Int).length + l1.length < 17592186044416 := by simp; omega
    have g2 : (0 : Int) ≤ (m : Int) := by omega
    have g3 : (m : Int) < (([] ++ l1 : List Int).length : Int) := by rw [List.nil_append]; omega
    have g4 : (m : Int) < (l0.length : Int) := by omega
    simp only [if_pos, eu, if_neg g0, em, Option.bind_some, if_pos g1, if_pos g2, if_pos g3, if_pos g4, ev]
    rw [List.nil_append, Int.toNat_natCast]
    have hm' : marksS l0 (l1.set m (v : Int)) = true := by
      unfold marksS
      rw [hmay, List.length_set, decide_eq_true hl, Bool.true_and, Bool.true_and, Bool.not_eq_true', List.any_eq_false]
      intro x hx'
      rcases List.mem_or_eq_of_mem_set hx' with hh | hh
      · rw [hx x hh]; exact Bool.false_ne_true
      · subst hh
        unfold oddB
        rw [decide_eq_false (show ¬ (v : Int) < 0 by omega), decide_eq_false (show ¬ 3 < (v : Int) by omega)]
        exact Bool.false_ne_true
    have hp := mayT_pa hmay m hml
    show Ev (fun q => sleuthlaw18_TopStill.l0 q l0 l1 (m : Int) (l1.set m (v : Int)) false (pa l0 m)) true
    by_cases c : m = 0
    · exact still_any hm hm' m (.inl c) l0.length (pa l0 m) false (by omega) (Nat.le_refl _)
    · by_cases cw : rd l1 0 = 2 ∧ wrongUp l0 l1 (pa l0 m)
      · exact still_wrong hm hm' m cw.1 l0.length (pa l0 m) (by omega) (Nat.le_refl _) cw.2
      · have hr := marks_at hm 0 (by omega)
        refine still_any hm hm' m (.inr (askT_same c ?_ hr)) l0.length (pa l0 m) false (by omega) (Nat.le_refl _)
        by_cases d : rd l1 0 = 2
        · exact .inr fun hh => cw ⟨d, hh⟩
        · exact .inl d
end Go.Proofs.YtpbobdgenjhjoaaDoor.G
