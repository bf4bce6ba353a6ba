/- What package back and its document answer, as plain functions: the way up from a node, the last false node. -/
import Derived.Test.YtgcdbpnflchobaaDoorTQ
import Derived.Test.YtgcdbpnflchobaaDoorG38
import Derived.Test.YtgcdbpnflchobaaDoorG39
import Derived.Test.YtgcdbpnflchobaaDoorG40
import Derived.Test.YtgcdbpnflchobaaDoorG41
namespace Go.Proofs.YtgcdbpnflchobaaDoor.G
open Go.RowKit Go.Proofs.YtgcdbpnflchobaaDoorW.PrintWords Go.Proofs.YtgcdbpnflchobaaDoorW.PrintLast Go.Proofs.YtgcdbpnflchobaaDoorW.PrintMore
set_option linter.unusedVariables false
set_option linter.unusedSimpArgs false
def inB (ns : List Nd) (a : Int) : Bool := mayT ns && (decide (0 ≤ a) && decide (a < (ns.length : Int)))
theorem inB_spec {ns : List Nd} {a : Int} (h : inB ns a = true) : mayT ns = true ∧ 0 ≤ a ∧ a < (ns.length : Int) := by
  unfold inB at h
  rw [Bool.and_eq_true, Bool.and_eq_true, decide_eq_true_iff, decide_eq_true_iff] at h
  exact ⟨h.1, h.2.1, h.2.2⟩
theorem inB_of {ns : List Nd} {a : Int} (h : mayT ns = true) (h0 : 0 ≤ a) (h1 : a < (ns.length : Int)) : inB ns a = true := by
  unfold inB
  rw [h, decide_eq_true h0, decide_eq_true h1]; rfl
def pathS (ns : List Nd) (a : Int) : List Int × Int := if inB ns a = true then (upTo' ns (ns.length + 1) a, 0) else ([], 2400)
theorem path_ev (ns : List Nd) (a : Int) : Ev (fun k => back_Path.f k ns a) (pathS ns a) := by
  unfold back_Path.f pathS
  refine Ev.bind (trailMay_ev ns) ?_
  by_cases c : inB ns a = true
  · rw [if_pos (inB_spec c), if_pos c]; exact Ev.now _
  · rw [if_neg (fun h => c (inB_of h.1 h.2.1 h.2.2)), if_neg c]; exact Ev.now _
theorem up_fuel {ns : List Nd} (h : mayT ns = true) : ∀ (m n : Nat) (a : Int), a < (m : Int) → m ≤ ns.length → m ≤ n → upTo' ns n a = upTo' ns m a
  | 0, n, a, ha, _, _ => by rw [upTo'_none ns a (by omega), upTo'_none ns a (by omega)]
  | m + 1, 0, a, ha, _, hn => absurd hn (by omega)
  | m + 1, n + 1, a, ha, hl, hn => by
    by_cases c : 0 ≤ a
    · obtain ⟨b, rfl⟩ : ∃ b : Nat, a = (b : Int) := ⟨a.toNat, by omega⟩
      have hp := mayT_pa h b (by omega)
      have e : upTo' ns n (pa ns b) = upTo' ns m (pa ns b) := by rw [up_fuel h m n (pa ns b) (by omega) (by omega) (by omega)]
      rw [upTo'_step _ _ c, upTo'_step _ _ c]
      exact congrArg _ e
    · rw [upTo'_none ns a c, upTo'_none ns a c]
theorem refPath_l0 {ns : List Nd} (h : mayT ns = true) : ∀ (m : Nat) (a : Int) (acc : List Int), a < (m : Int) → m ≤ ns.length → acc.length + m ≤ 1000 → Ev (fun k => sleuthref12_Path.l0 k ns acc a) (acc ++ upTo' ns m a, 0)
  | 0, a, acc, ha, _, _ => by
    refine Ev.step (f := fun _ => some (acc ++ upTo' ns 0 a, 0)) (fun k => ?_) (Ev.now _)
    rw [sleuthref12_Path.l0, if_neg (by omega), upTo'_none ns a (by omega), List.append_nil]
  | m + 1, a, acc, ha, hl, hc => by
    by_cases c : 0 ≤ a
    · obtain ⟨b, rfl⟩ : ∃ b : Nat, a = (b : Int) := ⟨a.toNat, by omega⟩
      have hp := mayT_pa h b (by omega)
      have e : acc ++ upTo' ns (m + 1) (b : Int) = (acc ++ [(b : Int)]) ++ upTo' ns m (pa ns b) := by rw [upTo'_step _ _ c, List.append_assoc]; rfl
      rw [e]
      refine Ev.step (f := fun k => sleuthref12_Path.l0 k ns (acc ++ [(b : Int)]) (pa ns b)) (fun k => ?_) (refPath_l0 h m (pa ns b) (acc ++ [(b : Int)]) (by omega) (by omega) (by rw [List.length_append, List.length_singleton]; omega))
      rw [sleuthref12_Path.l0, if_pos c, if_pos (by omega), if_pos c, if_pos (by omega)]; rfl
    · refine Ev.step (f := fun _ => some (acc ++ upTo' ns (m + 1) a, 0)) (fun k => ?_) (Ev.now _)
      rw [sleuthref12_Path.l0, if_neg (by omega), upTo'_none ns a c, List.append_nil]
theorem refPath_ev (ns : List Nd) (hok : okN ns) (a : Int) : Ev (fun k => sleuthref12_Path.f k ns a) (pathS ns a) := by
  unfold sleuthref12_Path.f
  refine Ev.bind (refTrail_ev ns hok) ?_
  cases hm : mayT ns with
  | false =>
    have e : pathS ns a = ([], 2400) := by unfold pathS inB; rw [hm]; rfl
    rw [e]
    simp only [if_neg Bool.false_ne_true]
    refine Ev.step (f := fun _ => some (([] : List Int), (2400 : Int))) (fun k => ?_) (Ev.now _)
    rw [sleuthref12_Path.j0, if_pos rfl]
  | true =>
    have hlen := mayT_len hm
    have hw : wrap64 ((ns.length : Int) - 1) = (ns.length : Int) - 1 := w64 (by omega) (by omega)
    simp only [if_pos, upTo_eq, Option.bind_some, hw]
    have e : decide (a ≤ (ns.length : Int) - 1) = decide (a < (ns.length : Int)) := decide_eq_decide.2 (by omega)
    rw [e]
    by_cases c : inB ns a = true
    · obtain ⟨_, h0, h1⟩ := inB_spec c
      have e2 : pathS ns a = ([] ++ upTo' ns ns.length a, 0) := by unfold pathS; rw [if_pos c, up_fuel hm ns.length (ns.length + 1) a h1 (Nat.le_refl _) (by omega)]; rfl
      rw [e2, decide_eq_true h0, decide_eq_true h1]
      refine Ev.step (f := fun k => sleuthref12_Path.l0 k ns ([] : List Int) a) (fun k => ?_) (refPath_l0 hm ns.length a [] h1 (Nat.le_refl _) (by simp; omega))
      rw [sleuthref12_Path.j0]; rfl
    · have e2 : (decide (0 ≤ a) && decide (a < (ns.length : Int))) = false := by
        unfold inB at c; rw [hm, Bool.true_and] at c; exact Bool.eq_false_iff.2 c
      have e3 : pathS ns a = ([], 2400) := by unfold pathS; rw [if_neg c]
      rw [e2, e3]
      refine Ev.step (f := fun _ => some (([] : List Int), (2400 : Int))) (fun k => ?_) (Ev.now _)
      rw [sleuthref12_Path.j0]; rfl
/-! the last false node -/
def noB (ns : List Nd) (i : Nat) : Prop := ((rn ns (i : Int)).f3).toList = ([33] : List UInt8)
instance (ns : List Nd) (i : Nat) : Decidable (noB ns i) := by unfold noB; exact inferInstance
theorem lastF_spec (ns : List Nd) : ∀ n : Nat, (∃ i, lastF ns n = some i ∧ i < n ∧ noB ns i ∧ ∀ j, i < j → j < n → ¬ noB ns j) ∨ (lastF ns n = none ∧ ∀ j, j < n → ¬ noB ns j)
  | 0 => .inr ⟨rfl, fun j h => absurd h (by omega)⟩
  | n + 1 => by
    rw [lastF]
    by_cases c : ((rn ns (n : Int)).f3).toList = ([33] : List UInt8)
    · rw [if_pos c]
      exact .inl ⟨n, rfl, by omega, c, fun j h1 h2 => absurd h2 (by omega)⟩
    · rw [if_neg c]
      rcases lastF_spec ns n with ⟨i, e, h1, h2, h3⟩ | ⟨e, h⟩
      · refine .inl ⟨i, e, by omega, h2, fun j h4 h5 => ?_⟩
        by_cases d : j = n
        · subst d; exact c
        · exact h3 j h4 (by omega)
      · refine .inr ⟨e, fun j h4 => ?_⟩
        by_cases d : j = n
        · subst d; exact c
        · exact h j (by omega)
def ofLast (o : Option Nat) : Int × Bool × Int := match o with | some i => ((i : Int), true, 0) | none => (0, false, 0)
def lastS (ns : List Nd) : Int × Bool × Int := if mayT ns = true then ofLast (lastF ns ns.length) else (0, false, 2400)
theorem last_ev (ns : List Nd) : Ev (fun k => back_Last.f k ns) (lastS ns) := by
  unfold back_Last.f lastS
  refine Ev.bind (trailMay_ev ns) ?_
  by_cases c : mayT ns = true
  · rw [if_pos c, if_pos c]
    unfold ofLast
    cases lastF ns ns.length <;> exact Ev.now _
  · rw [if_neg c, if_neg c]; exact Ev.now _
theorem refLast_l0 (ns : List Nd) (hl : ns.length ≤ 512) : ∀ n : Nat, n ≤ ns.length → Ev (fun k => sleuthref12_Last.l0 k ns ((n : Int) - 1)) (ofLast (lastF ns n))
  | 0, _ => by
    refine Ev.step (f := fun _ => some ((0 : Int), false, (0 : Int))) (fun k => ?_) (Ev.now _)
    rw [sleuthref12_Last.l0, if_neg (by omega)]
  | n + 1, h => by
    have e : ((n + 1 : Nat) : Int) - 1 = (n : Int) := by omega
    rw [e, lastF]
    have hw : wrap64 ((n : Int) - 1) = (n : Int) - 1 := w64 (by omega) (by omega)
    by_cases c : ((rn ns (n : Int)).f3).toList = ([33] : List UInt8)
    · rw [if_pos c]
      refine Ev.step (f := fun _ => some ((n : Int), true, (0 : Int))) (fun k => ?_) (Ev.now _)
      rw [sleuthref12_Last.l0, if_pos (by omega), if_pos (by omega), if_pos (by omega), if_pos c]
    · rw [if_neg c]
      refine Ev.step (f := fun k => sleuthref12_Last.l0 k ns ((n : Int) - 1)) (fun k => ?_) (refLast_l0 ns hl n (by omega))
      rw [sleuthref12_Last.l0, if_pos (by omega), if_pos (by omega), if_pos (by omega), if_neg c, hw]
theorem refLast_ev (ns : List Nd) (hok : okN ns) : Ev (fun k => sleuthref12_Last.f k ns) (lastS ns) := by
  unfold sleuthref12_Last.f lastS
  refine Ev.bind (refTrail_ev ns hok) ?_
  by_cases c : mayT ns = true
  · have hlen := mayT_len c
    have hw : wrap64 ((ns.length : Int) - 1) = (ns.length : Int) - 1 := w64 (by omega) (by omega)
    simp only [if_pos c, hw]
    exact refLast_l0 ns hlen.2 ns.length (Nat.le_refl _)
  · simp only [if_neg c]; exact Ev.now _
/-! the way up: its length, its head, its end -/
theorem up_facts {ns : List Nd} (h : mayT ns = true) : ∀ (m n : Nat) (a : Nat), a < m → m ≤ ns.length → m ≤ n → ∃ l, upTo' ns n (a : Int) = (a : Int) :: l ∧ l.length ≤ a ∧ rd ((a : Int) :: l) (l.length : Int) = 0
  | 0, n, a, ha, _, _ => absurd ha (by omega)
  | m + 1, 0, a, ha, _, hn => absurd hn (by omega)
  | m + 1, n + 1, a, ha, hl, hn => by
    have hp := mayT_pa h a (by omega)
    rw [upTo'_step _ _ (by omega)]
    change ∃ l, (a : Int) :: upTo' ns n (pa ns a) = (a : Int) :: l ∧ _
    rcases hp with ⟨h0, h1⟩ | ⟨h0, h1, h2⟩
    · subst h0
      rw [h1, upTo'_none ns (-1) (by omega)]
      exact ⟨[], rfl, Nat.le_refl _, rfl⟩
    · obtain ⟨b, hb⟩ : ∃ b : Nat, pa ns a = (b : Int) := ⟨(pa ns a).toNat, by omega⟩
      obtain ⟨l, e, h3, h4⟩ := up_facts h m n b (by omega) (by omega) (by omega)
      rw [hb, e]
      refine ⟨_, rfl, by rw [List.length_cons]; omega, ?_⟩
      rw [List.length_cons]
      show (List.getD _ _ _) = _
      rw [Int.toNat_natCast, List.getD_cons_succ]
      have h5 : List.getD ((b : Int) :: l) ((l.length : Int)).toNat 0 = 0 := h4
      rw [Int.toNat_natCast] at h5
      exact h5
theorem pathS_len (ns : List Nd) (a : Int) : (pathS ns a).1.length ≤ 513 := by
  unfold pathS
  by_cases c : inB ns a = true
  · obtain ⟨hm, h0, h1⟩ := inB_spec c
    have hlen := mayT_len hm
    obtain ⟨b, rfl⟩ : ∃ b : Nat, a = (b : Int) := ⟨a.toNat, by omega⟩
    obtain ⟨l, e, h2, _⟩ := up_facts hm ns.length (ns.length + 1) b (by omega) (Nat.le_refl _) (by omega)
    rw [if_pos c, e]
    show (_ :: l).length ≤ _
    rw [List.length_cons]; omega
  · rw [if_neg c]; exact Nat.zero_le _
end Go.Proofs.YtgcdbpnflchobaaDoor.G
