/- The law BackForms of package back, and what it rests on, as plain statements. -/
import Derived.Test.YtgcdbpnflchobaaDoorTP
import Derived.Test.YtgcdbpnflchobaaDoorGT
import Derived.Test.YtgcdbpnflchobaaDoorGS
import Derived.Test.YtgcdbpnflchobaaDoorG38
import Derived.Test.YtgcdbpnflchobaaDoorG39
import Derived.Test.YtgcdbpnflchobaaDoorG40
import Derived.Test.YtgcdbpnflchobaaDoorG41
import Derived.Test.YtgcdbpnflchobaaDoorG42
import Derived.Test.YtgcdbpnflchobaaDoorG44
import Derived.Test.YtgcdbpnflchobaaDoorGI
section
namespace Go.Proofs.YtgcdbpnflchobaaDoor.G
open Go.RowKit Go.Proofs.YtgcdbpnflchobaaDoorW.PrintWords Go.Proofs.YtgcdbpnflchobaaDoorW.PrintLast Go.Proofs.YtgcdbpnflchobaaDoorW.PrintMore
set_option linter.unusedVariables false
set_option linter.unusedSimpArgs false
abbrev Nd := S44
abbrev rn (ns : List Nd) (i : Int) : Nd := rd_T44 ns i
theorem rn_eq (ns : List Nd) (i : Nat) (h : i < ns.length) : rn ns (i : Int) = ns[i] := by
  show ns.getD _ _ = _
  rw [Int.toNat_natCast, List.getD_eq_getElem?_getD, List.getElem?_eq_getElem h]; rfl

/-! what every seat knows of nodes -/
def okN (ns : List Nd) : Prop := ns.length ≤ 2513169434845 ∧ ∀ x ∈ ns, x.f2.length ≤ 8796093021952
theorem okN.at {ns : List Nd} (h : okN ns) (i : Int) : (rn ns i).f2.length ≤ 8796093021952 := by
  show (ns.getD i.toNat _).f2.length ≤ _
  rw [List.getD_eq_getElem?_getD]
  cases hg : ns[i.toNat]? with
  | none => exact Nat.zero_le _
  | some x => exact h.2 x (List.mem_of_getElem? hg)

/-! may a node, a trail be? -/
def eqS (x : Nd) : Bool := decide (0 ≤ x.f0) && decide (x.f0 < 8) && decide (x.f2.length ≤ 3) && x.f2.all mayS && mayS x.f3
def nextS (x : Nd) (i : Int) : Bool := decide (i < 512) && (decide (0 ≤ x.f1 ∧ x.f1 < i) || decide (i = 0 ∧ x.f1 = -1)) && eqS x
def mayT (ns : List Nd) : Bool := decide (0 < ns.length) && (List.range ns.length).all fun i => nextS (rn ns (i : Int)) (i : Int)
theorem all_l0 (l : List ByteArray) (hl : l.length ≤ 9223372036854775806) : ∀ (n i : Nat), i + n = l.length → Ev (fun k => term_All.l0 k l (l.length : Int) (i : Int)) ((l.drop i).all mayS) := by
  intro n
  induction n with
  | zero =>
    intro i hi
    refine Ev.step (f := fun _ => some true) (fun k => ?_) ?_
    · simp only [term_All.l0]; rw [if_neg (by omega)]
    · rw [List.drop_eq_nil_of_le (by omega)]; exact Ev.now _
  | succ n ih =>
    intro i hi
    have hlt : i < l.length := by omega
    have hw : wrap64 ((i : Int) + 1) = ((i + 1 : Nat) : Int) := by rw [w64 (by omega) (by omega)]; omega
    refine Ev.step (f := fun k => (term_May.f k l[i]).bind fun t => if t = true then term_All.l0 k l (l.length : Int) ((i + 1 : Nat) : Int) else some false) (fun k => ?_) ?_
    · simp only [term_All.l0]
      rw [if_pos (by omega), if_pos (by omega), if_pos (by omega), hw]
      have : rdOf ByteArray.empty l (i : Int) = l[i] := by
        show l.getD _ _ = _
        rw [Int.toNat_natCast, List.getD_eq_getElem?_getD, List.getElem?_eq_getElem hlt]; rfl
      rw [this]
    · refine Ev.bind (may_ev _) ?_
      rw [List.drop_eq_getElem_cons hlt, List.all_cons]
      cases mayS l[i] with
      | true => simp only [if_pos, Bool.true_and]; exact ih (i + 1) (by omega)
      | false => simp only [Bool.false_and]; exact Ev.now _
theorem all_ev (l : List ByteArray) (hl : l.length ≤ 9223372036854775806) : Ev (fun k => term_All.f k l) (l.all mayS) := by
  have := all_l0 l hl l.length 0 (by omega)
  rw [List.drop_zero] at this
  exact this
theorem equation_ev (x : Nd) : Ev (fun k => trail_Equation.f k x.f0 x.f1 x.f2 x.f3) (eqS x) := by
  unfold trail_Equation.f eqS
  by_cases c1 : 0 ≤ x.f0
  · by_cases c2 : x.f0 < 8
    · by_cases c3 : (x.f2.length : Int) ≤ 3
      · simp only [if_pos c1, if_pos c2, if_pos c3, decide_eq_true c1, decide_eq_true c2, decide_eq_true (show x.f2.length ≤ 3 by omega), Bool.true_and]
        refine Ev.bind (all_ev _ (by omega)) ?_
        cases x.f2.all mayS with
        | true => simp only [if_pos, Bool.true_and]; exact may_ev _
        | false => simp only [Bool.false_and]; exact Ev.now _
      · simp only [if_pos c1, if_pos c2, if_neg c3, decide_eq_false (show ¬ x.f2.length ≤ 3 by omega), Bool.and_false, Bool.false_and]; exact Ev.now _
    · simp only [if_pos c1, if_neg c2, decide_eq_false c2, Bool.and_false, Bool.false_and]; exact Ev.now _
  · simp only [if_neg c1, decide_eq_false c1, Bool.false_and]; exact Ev.now _
theorem next_ev (x : Nd) (i : Int) : Ev (fun k => trail_Next.f k x.f0 x.f1 x.f2 x.f3 i) (nextS x i) := by
  unfold trail_Next.f nextS
  by_cases c1 : i < 512
  · by_cases c2 : (0 ≤ x.f1 ∧ x.f1 < i) ∨ (i = 0 ∧ x.f1 = -1)
    · simp only [if_pos c1, if_pos c2, decide_eq_true c1, Bool.true_and]
      have : (decide (0 ≤ x.f1 ∧ x.f1 < i) || decide (i = 0 ∧ x.f1 = -1)) = true := by
        rw [Bool.or_eq_true, decide_eq_true_iff, decide_eq_true_iff]; exact c2
      rw [this, Bool.true_and]
      exact equation_ev x
    · simp only [if_pos c1, if_neg c2, decide_eq_true c1, Bool.true_and]
      have : (decide (0 ≤ x.f1 ∧ x.f1 < i) || decide (i = 0 ∧ x.f1 = -1)) = false := by
        rw [← Bool.not_eq_true, Bool.or_eq_true, decide_eq_true_iff, decide_eq_true_iff]; exact c2
      rw [this, Bool.false_and]
      exact Ev.now _
  · simp only [if_neg c1, decide_eq_false c1, Bool.false_and]; exact Ev.now _
theorem nextS_512 {x : Nd} {i : Int} (h : nextS x i = true) : i < 512 := by
  unfold nextS at h
  rw [Bool.and_eq_true, Bool.and_eq_true, decide_eq_true_iff] at h
  exact h.1.1
theorem trailMay_l0 (ns : List Nd) : ∀ (n i : Nat), i + n = ns.length → Ev (fun k => trail_May.l0 k ns (i : Int)) (decide (0 < ns.length) && (List.range' i n).all fun j => nextS (rn ns (j : Int)) (j : Int)) := by
  intro n
  induction n with
  | zero =>
    intro i hi
    refine Ev.step (f := fun _ => some (decide (0 < ns.length))) (fun k => ?_) ?_
    · simp only [trail_May.l0]
      rw [if_neg (by omega)]
      congr 1
      exact decide_eq_decide.2 (by omega)
    · simp only [List.range'_zero, List.all_nil, Bool.and_true]; exact Ev.now _
  | succ n ih =>
    intro i hi
    refine Ev.step (f := fun k => (trail_Next.f k (rn ns (i : Int)).f0 (rn ns (i : Int)).f1 (rn ns (i : Int)).f2 (rn ns (i : Int)).f3 (i : Int)).bind fun t => if t = true then trail_May.l0 k ns (wrap64 ((i : Int) + 1)) else some false) (fun k => ?_) ?_
    · simp only [trail_May.l0]
      rw [if_pos (by omega), if_pos (by omega)]
    · refine Ev.bind (next_ev (rn ns (i : Int)) (i : Int)) ?_
      rw [List.range'_succ, List.all_cons]
      cases hn : nextS (rn ns (i : Int)) (i : Int) with
      | true =>
        have := nextS_512 hn
        simp only [if_pos, Bool.true_and]
        rw [show wrap64 ((i : Int) + 1) = ((i + 1 : Nat) : Int) from by rw [w64 (by omega) (by omega)]; omega]
        exact ih (i + 1) (by omega)
      | false => simp only [Bool.false_and, Bool.and_false]; exact Ev.now _
theorem trailMay_ev (ns : List Nd) : Ev (fun k => trail_May.f k ns) (mayT ns) := by
  have := trailMay_l0 ns ns.length 0 (by omega)
  unfold mayT
  rw [List.range_eq_range']
  exact this
/-! the document's -/
theorem upTo_eq (a b c : Int) : sleuthref12_upTo.f a b c = some (decide (b ≤ a) && decide (a ≤ c)) := by
  unfold sleuthref12_upTo.f
  by_cases h : a ≥ b
  · rw [if_pos h, decide_eq_true h, Bool.true_and]
  · rw [if_neg h, decide_eq_false h, Bool.false_and]
theorem refTexts_l0 (x : Nd) (hl : x.f2.length ≤ 9223372036854775806) : ∀ (n i : Nat), i + n = x.f2.length → Ev (fun k => sleuthref12_texts.l0 k (i : Int) x.f0 x.f1 x.f2 x.f3) ((x.f2.drop i).all mayS && (decide (0 ≤ x.f0) && decide (x.f0 ≤ 7) && decide (x.f2.length ≤ 3) && mayS x.f3)) := by
  intro n
  induction n with
  | zero =>
    intro i hi
    refine Ev.step (f := fun k => ((sleuthref12_upTo.f x.f0 0 7).bind fun t255 => (if t255 = true then (if (x.f2.length : Int) ≤ 3 then ((sleuthref1_TermMay.f k x.f3).bind fun t256 => (some t256)) else (some false)) else (some false)))) (fun k => ?_) ?_
    · simp only [sleuthref12_texts.l0]; rw [if_neg (by omega)]
    · rw [List.drop_eq_nil_of_le (by omega), List.all_nil, Bool.true_and]
      simp only [upTo_eq, Option.bind_some]
      cases (decide (0 ≤ x.f0) && decide (x.f0 ≤ 7)) with
      | true =>
        simp only [if_pos, Bool.true_and]
        by_cases c : (x.f2.length : Int) ≤ 3
        · simp only [if_pos c, decide_eq_true (show x.f2.length ≤ 3 by omega), Bool.true_and]
          exact Ev.bind (refMay_ev _) (Ev.now _)
        · simp only [if_neg c, decide_eq_false (show ¬ x.f2.length ≤ 3 by omega), Bool.false_and]
          exact Ev.now _
      | false => simp only [Bool.false_and]; exact Ev.now _
  | succ n ih =>
    intro i hi
    have hlt : i < x.f2.length := by omega
    have hw : wrap64 ((i : Int) + 1) = ((i + 1 : Nat) : Int) := by rw [w64 (by omega) (by omega)]; omega
    refine Ev.step (f := fun k => (sleuthref1_TermMay.f k x.f2[i]).bind fun t => if t = true then sleuthref12_texts.l0 k ((i + 1 : Nat) : Int) x.f0 x.f1 x.f2 x.f3 else some false) (fun k => ?_) ?_
    · simp only [sleuthref12_texts.l0]
      rw [if_pos (by omega), if_pos (by omega), hw]
      have : rdOf ByteArray.empty x.f2 (i : Int) = x.f2[i] := by
        show x.f2.getD _ _ = _
        rw [Int.toNat_natCast, List.getD_eq_getElem?_getD, List.getElem?_eq_getElem hlt]; rfl
      rw [this]
    · refine Ev.bind (refMay_ev _) ?_
      rw [List.drop_eq_getElem_cons hlt, List.all_cons]
      cases mayS x.f2[i] with
      | true => simp only [if_pos, Bool.true_and]; exact ih (i + 1) (by omega)
      | false => simp only [Bool.false_and]; exact Ev.now _
theorem refTexts_ev (x : Nd) (hl : x.f2.length ≤ 9223372036854775806) : Ev (fun k => sleuthref12_texts.f k x.f0 x.f1 x.f2 x.f3) (eqS x) := by
  have := refTexts_l0 x hl x.f2.length 0 (by omega)
  rw [List.drop_zero] at this
  have e : (x.f2.all mayS && (decide (0 ≤ x.f0) && decide (x.f0 ≤ 7) && decide (x.f2.length ≤ 3) && mayS x.f3)) = eqS x := by
    unfold eqS
    rw [show decide (x.f0 ≤ 7) = decide (x.f0 < 8) from decide_eq_decide.2 (by omega)]
    cases x.f2.all mayS <;> cases decide (0 ≤ x.f0) <;> cases decide (x.f0 < 8) <;> cases decide (x.f2.length ≤ 3) <;> cases mayS x.f3 <;> rfl
  rw [e] at this
  exact this
theorem refStands_ev (x : Nd) (hl : x.f2.length ≤ 9223372036854775806) (i : Nat) : Ev (fun k => sleuthref12_stands.f k x.f0 x.f1 x.f2 x.f3 (i : Int)) (nextS x (i : Int)) := by
  unfold sleuthref12_stands.f nextS
  by_cases c1 : (i : Int) < 512
  · simp only [if_pos c1, decide_eq_true c1, Bool.true_and]
    refine Ev.bind (refTexts_ev x hl) ?_
    cases eqS x with
    | false => simp only [Bool.and_false]; exact Ev.now _
    | true =>
      simp only [if_pos, Bool.and_true]
      have hw : wrap64 ((i : Int) - 1) = (i : Int) - 1 := w64 (by omega) (by omega)
      by_cases c2 : (i : Int) = 0
      · simp only [if_pos c2]
        by_cases c3 : x.f1 = -1
        · simp only [if_pos c3]
          have : (decide (0 ≤ x.f1 ∧ x.f1 < (i : Int)) || decide ((i : Int) = 0 ∧ x.f1 = -1)) = true := by
            rw [Bool.or_eq_true, decide_eq_true_iff, decide_eq_true_iff]; exact .inr ⟨c2, c3⟩
          rw [this]
          exact Ev.now _
        · simp only [if_neg c3, if_neg (show ¬ ((i : Int) > 0) by omega)]
          have : (decide (0 ≤ x.f1 ∧ x.f1 < (i : Int)) || decide ((i : Int) = 0 ∧ x.f1 = -1)) = false := by
            rw [← Bool.not_eq_true, Bool.or_eq_true, decide_eq_true_iff, decide_eq_true_iff]; omega
          rw [this]
          exact Ev.now _
      · simp only [if_neg c2, if_pos (show (i : Int) > 0 by omega), upTo_eq, Option.bind_some, hw]
        have : (decide (0 ≤ x.f1 ∧ x.f1 < (i : Int)) || decide ((i : Int) = 0 ∧ x.f1 = -1)) = (decide (0 ≤ x.f1) && decide (x.f1 ≤ (i : Int) - 1)) := by
          rw [Bool.eq_iff_iff, Bool.or_eq_true, Bool.and_eq_true, decide_eq_true_iff, decide_eq_true_iff, decide_eq_true_iff, decide_eq_true_iff]; omega
        rw [this]
        exact Ev.now _
  · simp only [if_neg c1, decide_eq_false c1, Bool.false_and]; exact Ev.now _
theorem refTrail_l0 (ns : List Nd) (hok : okN ns) : ∀ (n i : Nat), i + n = ns.length → Ev (fun k => sleuthref12_TrailMay.l0 k ns (i : Int)) (decide (0 < ns.length) && (List.range' i n).all fun j => nextS (rn ns (j : Int)) (j : Int)) := by
  intro n
  induction n with
  | zero =>
    intro i hi
    refine Ev.step (f := fun _ => some (decide (0 < ns.length))) (fun k => ?_) ?_
    · simp only [sleuthref12_TrailMay.l0]
      rw [if_neg (by omega)]
      congr 1
      exact decide_eq_decide.2 (by omega)
    · simp only [List.range'_zero, List.all_nil, Bool.and_true]; exact Ev.now _
  | succ n ih =>
    intro i hi
    refine Ev.step (f := fun k => (sleuthref12_stands.f k (rn ns (i : Int)).f0 (rn ns (i : Int)).f1 (rn ns (i : Int)).f2 (rn ns (i : Int)).f3 (i : Int)).bind fun t => if t = true then sleuthref12_TrailMay.l0 k ns (wrap64 ((i : Int) + 1)) else some false) (fun k => ?_) ?_
    · simp only [sleuthref12_TrailMay.l0]
      rw [if_pos (by omega), if_pos (by omega)]
    · refine Ev.bind (refStands_ev (rn ns (i : Int)) (Nat.le_trans (hok.at _) (by omega)) i) ?_
      rw [List.range'_succ, List.all_cons]
      cases hn : nextS (rn ns (i : Int)) (i : Int) with
      | true =>
        have := nextS_512 hn
        simp only [if_pos, Bool.true_and]
        rw [show wrap64 ((i : Int) + 1) = ((i + 1 : Nat) : Int) from by rw [w64 (by omega) (by omega)]; omega]
        exact ih (i + 1) (by omega)
      | false => simp only [Bool.false_and, Bool.and_false]; exact Ev.now _
theorem refTrail_ev (ns : List Nd) (hok : okN ns) : Ev (fun k => sleuthref12_TrailMay.f k ns) (mayT ns) := by
  have := refTrail_l0 ns hok ns.length 0 (by omega)
  unfold mayT
  rw [List.range_eq_range']
  exact this
/-! what a trail that may be knows -/
theorem mayT_at {ns : List Nd} (h : mayT ns = true) : 0 < ns.length ∧ ∀ i : Nat, i < ns.length → nextS (rn ns (i : Int)) (i : Int) = true := by
  unfold mayT at h
  rw [Bool.and_eq_true, decide_eq_true_iff] at h
  exact ⟨h.1, fun i hi => List.all_eq_true.1 h.2 i (List.mem_range.2 hi)⟩
theorem mayT_len {ns : List Nd} (h : mayT ns = true) : 0 < ns.length ∧ ns.length ≤ 512 := by
  obtain ⟨h1, h2⟩ := mayT_at h
  have := nextS_512 (h2 (ns.length - 1) (by omega))
  exact ⟨h1, by omega⟩
def pa (ns : List Nd) (i : Nat) : Int := (rn ns (i : Int)).f1
theorem mayT_pa {ns : List Nd} (h : mayT ns = true) (i : Nat) (hi : i < ns.length) : (i = 0 ∧ pa ns i = -1) ∨ (0 < i ∧ 0 ≤ pa ns i ∧ pa ns i < (i : Int)) := by
  have := (mayT_at h).2 i hi
  unfold nextS at this
  rw [Bool.and_eq_true, Bool.and_eq_true, Bool.or_eq_true, decide_eq_true_iff, decide_eq_true_iff, decide_eq_true_iff] at this
  unfold pa
  rcases this.1.2 with h1 | h1 <;> omega
end Go.Proofs.YtgcdbpnflchobaaDoor.G
end
section
namespace Go.Proofs.YtgcdbpnflchobaaDoor.G
open Go.RowKit Go.Proofs.YtgcdbpnflchobaaDoorW.PrintWords Go.Proofs.YtgcdbpnflchobaaDoorW.PrintLast Go.Proofs.YtgcdbpnflchobaaDoorW.PrintMore
set_option linter.unusedVariables false
set_option linter.unusedSimpArgs false
/-! what a row knows of its nodes -/
theorem num_ev (x : Int) : Ev (fun _ => sleuthlaw0_Num.f x) x := Ev.now _
theorem sameInts_l0 (a : List Int) (ha : a.length ≤ 9223372036854775806) : ∀ (n i : Nat), i + n = a.length → Ev (fun k => sleuthlaw0_SameInts.l0 k a a (i : Int)) true := by
  intro n
  induction n with
  | zero =>
    intro i hi
    refine Ev.step (f := fun _ => some true) (fun k => ?_) (Ev.now _)
    rw [sleuthlaw0_SameInts.l0, if_neg (by omega)]
  | succ n ih =>
    intro i hi
    have hw : wrap64 ((i : Int) + 1) = ((i + 1 : Nat) : Int) := by rw [w64 (by omega) (by omega)]; omega
    refine Ev.step (f := fun k => sleuthlaw0_SameInts.l0 k a a ((i + 1 : Nat) : Int)) (fun k => ?_) (ih (i + 1) (by omega))
    rw [sleuthlaw0_SameInts.l0, if_pos (by omega), if_pos (by omega), if_pos (by omega), if_pos rfl, hw]
theorem sameInts_ev (a : List Int) (ha : a.length ≤ 9223372036854775806) : Ev (fun k => sleuthlaw0_SameInts.f k a a) true := by
  unfold sleuthlaw0_SameInts.f
  simp only [if_pos]
  exact sameInts_l0 a ha a.length 0 (by omega)
end Go.Proofs.YtgcdbpnflchobaaDoor.G
end
section
/- What package back and its document answer, as plain functions: the way up from a node, the last false node. -/
namespace Go.Proofs.YtgcdbpnflchobaaDoor.G
open Go.RowKit Go.Proofs.YtgcdbpnflchobaaDoorW.PrintWords Go.Proofs.YtgcdbpnflchobaaDoorW.PrintLast Go.Proofs.YtgcdbpnflchobaaDoorW.PrintMore
set_option linter.unusedVariables false
set_option linter.unusedSimpArgs false
def inB (ns : List Nd) (a : Int) : Bool := mayT ns && (decide (0 ≤ a) && decide (a < (ns.length : Int)))
theorem inB_spec {ns : List Nd} {a : Int} (h : inB ns a = true) : mayT ns = true ∧ 0 ≤ a ∧ a < (ns.length : Int) := by
  unfold inB at h
  rw [Bool.and_eq_true, Bool.and_eq_true, decide_eq_true_iff, decide_eq_true_iff] at h
  exact ⟨h.1, h.2.1, h.2.2⟩
theorem inB_of {ns : List Nd} {a : Int} (h : mayT ns = true) (h0 : 0 ≤ a) (h1 : a < (ns.length : Int)) : inB ns a = true := by
  unfold inB
  rw [h, decide_eq_true h0, decide_eq_true h1]; rfl
def pathS (ns : List Nd) (a : Int) : List Int × Int := if inB ns a = true then (upTo' ns (ns.length + 1) a, 0) else ([], 2400)
theorem path_ev (ns : List Nd) (a : Int) : Ev (fun k => back_Path.f k ns a) (pathS ns a) := by
  unfold back_Path.f pathS
  refine Ev.bind (trailMay_ev ns) ?_
  by_cases c : inB ns a = true
  · rw [if_pos (inB_spec c), if_pos c]; exact Ev.now _
  · rw [if_neg (fun h => c (inB_of h.1 h.2.1 h.2.2)), if_neg c]; exact Ev.now _
theorem up_fuel {ns : List Nd} (h : mayT ns = true) : ∀ (m n : Nat) (a : Int), a < (m : Int) → m ≤ ns.length → m ≤ n → upTo' ns n a = upTo' ns m a
  | 0, n, a, ha, _, _ => by rw [upTo'_none ns a (by omega), upTo'_none ns a (by omega)]
  | m + 1, 0, a, ha, _, hn => absurd hn (by omega)
  | m + 1, n + 1, a, ha, hl, hn => by
    by_cases c : 0 ≤ a
    · obtain ⟨b, rfl⟩ : ∃ b : Nat, a = (b : Int) := ⟨a.toNat, by omega⟩
      have hp := mayT_pa h b (by omega)
      have e : upTo' ns n (pa ns b) = upTo' ns m (pa ns b) := by rw [up_fuel h m n (pa ns b) (by omega) (by omega) (by omega)]
      rw [upTo'_step _ _ c, upTo'_step _ _ c]
      exact congrArg _ e
    · rw [upTo'_none ns a c, upTo'_none ns a c]
theorem refPath_l0 {ns : List Nd} (h : mayT ns = true) : ∀ (m : Nat) (a : Int) (acc : List Int), a < (m : Int) → m ≤ ns.length → acc.length + m ≤ 1000 → Ev (fun k => sleuthref12_Path.l0 k ns acc a) (acc ++ upTo' ns m a, 0)
  | 0, a, acc, ha, _, _ => by
    refine Ev.step (f := fun _ => some (acc ++ upTo' ns 0 a, 0)) (fun k => ?_) (Ev.now _)
    rw [sleuthref12_Path.l0, if_neg (by omega), upTo'_none ns a (by omega), List.append_nil]
  | m + 1, a, acc, ha, hl, hc => by
    by_cases c : 0 ≤ a
    · obtain ⟨b, rfl⟩ : ∃ b : Nat, a = (b : Int) := ⟨a.toNat, by omega⟩
      have hp := mayT_pa h b (by omega)
      have e : acc ++ upTo' ns (m + 1) (b : Int) = (acc ++ [(b : Int)]) ++ upTo' ns m (pa ns b) := by rw [upTo'_step _ _ c, List.append_assoc]; rfl
      rw [e]
      refine Ev.step (f := fun k => sleuthref12_Path.l0 k ns (acc ++ [(b : Int)]) (pa ns b)) (fun k => ?_) (refPath_l0 h m (pa ns b) (acc ++ [(b : Int)]) (by omega) (by omega) (by rw [List.length_append, List.length_singleton]; omega))
      rw [sleuthref12_Path.l0, if_pos c, if_pos (by omega), if_pos c, if_pos (by omega)]; rfl
    · refine Ev.step (f := fun _ => some (acc ++ upTo' ns (m + 1) a, 0)) (fun k => ?_) (Ev.now _)
      rw [sleuthref12_Path.l0, if_neg (by omega), upTo'_none ns a c, List.append_nil]
theorem refPath_ev (ns : List Nd) (hok : okN ns) (a : Int) : Ev (fun k => sleuthref12_Path.f k ns a) (pathS ns a) := by
  unfold sleuthref12_Path.f
  refine Ev.bind (refTrail_ev ns hok) ?_
  cases hm : mayT ns with
  | false =>
    have e : pathS ns a = ([], 2400) := by unfold pathS inB; rw [hm]; rfl
    rw [e]
    simp only [if_neg Bool.false_ne_true]
    refine Ev.step (f := fun _ => some (([] : List Int), (2400 : Int))) (fun k => ?_) (Ev.now _)
    rw [sleuthref12_Path.j0, if_pos rfl]
  | true =>
    have hlen := mayT_len hm
    have hw : wrap64 ((ns.length : Int) - 1) = (ns.length : Int) - 1 := w64 (by omega) (by omega)
    simp only [if_pos, upTo_eq, Option.bind_some, hw]
    have e : decide (a ≤ (ns.length : Int) - 1) = decide (a < (ns.length : Int)) := decide_eq_decide.2 (by omega)
    rw [e]
    by_cases c : inB ns a = true
    · obtain ⟨_, h0, h1⟩ := inB_spec c
      have e2 : pathS ns a = ([] ++ upTo' ns ns.length a, 0) := by unfold pathS; rw [if_pos c, up_fuel hm ns.length (ns.length + 1) a h1 (Nat.le_refl _) (by omega)]; rfl
      rw [e2, decide_eq_true h0, decide_eq_true h1]
      refine Ev.step (f := fun k => sleuthref12_Path.l0 k ns ([] : List Int) a) (fun k => ?_) (refPath_l0 hm ns.length a [] h1 (Nat.le_refl _) (by simp; omega))
      rw [sleuthref12_Path.j0]; rfl
    · have e2 : (decide (0 ≤ a) && decide (a < (ns.length : Int))) = false := by
        unfold inB at c; rw [hm, Bool.true_and] at c; exact Bool.eq_false_iff.2 c
      have e3 : pathS ns a = ([], 2400) := by unfold pathS; rw [if_neg c]
      rw [e2, e3]
      refine Ev.step (f := fun _ => some (([] : List Int), (2400 : Int))) (fun k => ?_) (Ev.now _)
      rw [sleuthref12_Path.j0]; rfl
/-! the last false node -/
def noB (ns : List Nd) (i : Nat) : Prop := ((rn ns (i : Int)).f3).toList = ([33] : List UInt8)
instance (ns : List Nd) (i : Nat) : Decidable (noB ns i) := by unfold noB; exact inferInstance
theorem lastF_spec (ns : List Nd) : ∀ n : Nat, (∃ i, lastF ns n = some i ∧ i < n ∧ noB ns i ∧ ∀ j, i < j → j < n → ¬ noB ns j) ∨ (lastF ns n = none ∧ ∀ j, j < n → ¬ noB ns j)
  | 0 => .inr ⟨rfl, fun j h => absurd h (by omega)⟩
  | n + 1 => by
    rw [lastF]
    by_cases c : ((rn ns (n : Int)).f3).toList = ([33] : List UInt8)
    · rw [if_pos c]
      exact .inl ⟨n, rfl, by omega, c, fun j h1 h2 => absurd h2 (by omega)⟩
    · rw [if_neg c]
      rcases lastF_spec ns n with ⟨i, e, h1, h2, h3⟩ | ⟨e, h⟩
      · refine .inl ⟨i, e, by omega, h2, fun j h4 h5 => ?_⟩
        by_cases d : j = n
        · subst d; exact c
        · exact h3 j h4 (by omega)
      · refine .inr ⟨e, fun j h4 => ?_⟩
        by_cases d : j = n
        · subst d; exact c
        · exact h j (by omega)
def ofLast (o : Option Nat) : Int × Bool × Int := match o with | some i => ((i : Int), true, 0) | none => (0, false, 0)
def lastS (ns : List Nd) : Int × Bool × Int := if mayT ns = true then ofLast (lastF ns ns.length) else (0, false, 2400)
theorem last_ev (ns : List Nd) : Ev (fun k => back_Last.f k ns) (lastS ns) := by
  unfold back_Last.f lastS
  refine Ev.bind (trailMay_ev ns) ?_
  by_cases c : mayT ns = true
  · rw [if_pos c, if_pos c]
    unfold ofLast
    cases lastF ns ns.length <;> exact Ev.now _
  · rw [if_neg c, if_neg c]; exact Ev.now _
theorem refLast_l0 (ns : List Nd) (hl : ns.length ≤ 512) : ∀ n : Nat, n ≤ ns.length → Ev (fun k => sleuthref12_Last.l0 k ns ((n : Int) - 1)) (ofLast (lastF ns n))
  | 0, _ => by
    refine Ev.step (f := fun _ => some ((0 : Int), false, (0 : Int))) (fun k => ?_) (Ev.now _)
    rw [sleuthref12_Last.l0, if_neg (by omega)]
  | n + 1, h => by
    have e : ((n + 1 : Nat) : Int) - 1 = (n : Int) := by omega
    rw [e, lastF]
    have hw : wrap64 ((n : Int) - 1) = (n : Int) - 1 := w64 (by omega) (by omega)
    by_cases c : ((rn ns (n : Int)).f3).toList = ([33] : List UInt8)
    · rw [if_pos c]
      refine Ev.step (f := fun _ => some ((n : Int), true, (0 : Int))) (fun k => ?_) (Ev.now _)
      rw [sleuthref12_Last.l0, if_pos (by omega), if_pos (by omega), if_pos (by omega), if_pos c]
    · rw [if_neg c]
      refine Ev.step (f := fun k => sleuthref12_Last.l0 k ns ((n : Int) - 1)) (fun k => ?_) (refLast_l0 ns hl n (by omega))
      rw [sleuthref12_Last.l0, if_pos (by omega), if_pos (by omega), if_pos (by omega), if_neg c, hw]
theorem refLast_ev (ns : List Nd) (hok : okN ns) : Ev (fun k => sleuthref12_Last.f k ns) (lastS ns) := by
  unfold sleuthref12_Last.f lastS
  refine Ev.bind (refTrail_ev ns hok) ?_
  by_cases c : mayT ns = true
  · have hlen := mayT_len c
    have hw : wrap64 ((ns.length : Int) - 1) = (ns.length : Int) - 1 := w64 (by omega) (by omega)
    simp only [if_pos c, hw]
    exact refLast_l0 ns hlen.2 ns.length (Nat.le_refl _)
  · simp only [if_neg c]; exact Ev.now _
/-! the way up: its length, its head, its end -/
theorem up_facts {ns : List Nd} (h : mayT ns = true) : ∀ (m n : Nat) (a : Nat), a < m → m ≤ ns.length → m ≤ n → ∃ l, upTo' ns n (a : Int) = (a : Int) :: l ∧ l.length ≤ a ∧ rd ((a : Int) :: l) (l.length : Int) = 0
  | 0, n, a, ha, _, _ => absurd ha (by omega)
  | m + 1, 0, a, ha, _, hn => absurd hn (by omega)
  | m + 1, n + 1, a, ha, hl, hn => by
    have hp := mayT_pa h a (by omega)
    rw [upTo'_step _ _ (by omega)]
    change ∃ l, (a : Int) :: upTo' ns n (pa ns a) = (a : Int) :: l ∧ _
    rcases hp with ⟨h0, h1⟩ | ⟨h0, h1, h2⟩
    · subst h0
      rw [h1, upTo'_none ns (-1) (by omega)]
      exact ⟨[], rfl, Nat.le_refl _, rfl⟩
    · obtain ⟨b, hb⟩ : ∃ b : Nat, pa ns a = (b : Int) := ⟨(pa ns a).toNat, by omega⟩
      obtain ⟨l, e, h3, h4⟩ := up_facts h m n b (by omega) (by omega) (by omega)
      rw [hb, e]
      refine ⟨_, rfl, by rw [List.length_cons]; omega, ?_⟩
      rw [List.length_cons]
      show (List.getD _ _ _) = _
      rw [Int.toNat_natCast, List.getD_cons_succ]
      have h5 : List.getD ((b : Int) :: l) ((l.length : Int)).toNat 0 = 0 := h4
      rw [Int.toNat_natCast] at h5
      exact h5
theorem pathS_len (ns : List Nd) (a : Int) : (pathS ns a).1.length ≤ 513 := by
  unfold pathS
  by_cases c : inB ns a = true
  · obtain ⟨hm, h0, h1⟩ := inB_spec c
    have hlen := mayT_len hm
    obtain ⟨b, rfl⟩ : ∃ b : Nat, a = (b : Int) := ⟨a.toNat, by omega⟩
    obtain ⟨l, e, h2, _⟩ := up_facts hm ns.length (ns.length + 1) b (by omega) (Nat.le_refl _) (by omega)
    rw [if_pos c, e]
    show (_ :: l).length ≤ _
    rw [List.length_cons]; omega
  · rw [if_neg c]; exact Nat.zero_le _
end Go.Proofs.YtgcdbpnflchobaaDoor.G
end
section
/- Rows of small nodes, and remainders: what the laws that make a trail of their own share. -/
namespace Go.Proofs.YtgcdbpnflchobaaDoor.G
open Go.RowKit Go.Proofs.YtgcdbpnflchobaaDoorW.PrintWords Go.Proofs.YtgcdbpnflchobaaDoorW.PrintLast Go.Proofs.YtgcdbpnflchobaaDoorW.PrintMore
set_option linter.unusedVariables false
set_option linter.unusedSimpArgs false
theorem and_range (x : Int) (m : Nat) (hm : m < 9223372036854775808) : 0 ≤ Go.bits .and .i64 x (m : Int) ∧ Go.bits .and .i64 x (m : Int) ≤ m := by
  have h : (BitVec.ofInt IntKind.i64.bits x &&& BitVec.ofInt IntKind.i64.bits (m : Int)).toNat ≤ m := by
    rw [BitVec.toNat_and, BitVec.ofInt_natCast, BitVec.toNat_ofNat]
    exact Nat.le_trans Nat.and_le_right (Nat.mod_le _ _)
  unfold Go.bits
  simp only [IntKind.wrap_i64]
  omega
def one (p : Int) : Nd := ⟨0, p, [], (⟨#[49]⟩ : ByteArray)⟩
theorem eqS_one (p : Int) : eqS (one p) = true := by
  have h : mayS (⟨#[49]⟩ : ByteArray) = true := by kernel_rfl
  unfold eqS one
  simp only [h]
  rfl
theorem rn_map (k : Nat) (f : Nat → Nd) (j : Nat) (h : j < k) : rn ((List.range k).map f) (j : Int) = f j := by
  rw [rn_eq _ j (by simpa using h)]
  simp
theorem may_map (k : Nat) (h0 : 0 < k) (h1 : k ≤ 512) (f : Nat → Int) (hf : ∀ j, j < k → (0 ≤ f j ∧ f j < (j : Int)) ∨ (j = 0 ∧ f j = -1)) : mayT ((List.range k).map fun j => one (f j)) = true := by
  unfold mayT
  rw [Bool.and_eq_true, decide_eq_true_iff, List.length_map, List.length_range]
  refine ⟨h0, List.all_eq_true.2 fun i hi => ?_⟩
  have hi := List.mem_range.1 hi
  rw [rn_map k _ i hi]
  unfold nextS
  rw [eqS_one, Bool.and_true, Bool.and_eq_true, Bool.or_eq_true, decide_eq_true_iff, decide_eq_true_iff, decide_eq_true_iff]
  refine ⟨by omega, ?_⟩
  show (0 ≤ f i ∧ f i < (i : Int)) ∨ ((i : Int) = 0 ∧ f i = -1)
  have := hf i hi
  omega
def rowI (k i : Nat) (f : Nat → Nd) : List Nd := (List.range k).map fun j => if j < i then f j else z44
theorem rowI_set (k i : Nat) (f : Nat → Nd) (h : i < k) : (rowI k i f).set i (f i) = rowI k (i + 1) f := by
  apply List.ext_getElem
  · simp [rowI]
  · intro j h1 h2
    rw [List.getElem_set]
    simp only [rowI, List.getElem_map, List.getElem_range]
    by_cases c : i = j
    · subst c; rw [if_pos rfl, if_pos (by omega)]
    · rw [if_neg c]
      by_cases d : j < i
      · rw [if_pos d, if_pos (by omega)]
      · rw [if_neg d, if_neg (by omega)]
theorem rowI_zero (k : Nat) (f : Nat → Nd) : rowI k 0 f = List.replicate k z44 := by
  apply List.ext_getElem
  · simp [rowI]
  · intro j h1 h2
    simp [rowI]
theorem rowI_full (k : Nat) (f : Nat → Nd) : rowI k k f = (List.range k).map f := by
  unfold rowI
  apply List.map_congr_left
  intro j hj
  rw [if_pos (List.mem_range.1 hj)]
theorem umod (a : Int) (k : Nat) (h0 : 0 < k) (h1 : k ≤ 512) : IntKind.u64.wrap (k : Int) = (k : Int) ∧ ∃ m : Nat, m < k ∧ wrap64 (Int.tmod (IntKind.u64.wrap a) (k : Int)) = (m : Int) := by
  have e1 : IntKind.u64.wrap (k : Int) = (k : Int) := by
    show (k : Int) % 18446744073709551616 = _
    omega
  refine ⟨e1, ?_⟩
  have h2 : 0 ≤ IntKind.u64.wrap a ∧ IntKind.u64.wrap a < 18446744073709551616 := by
    show 0 ≤ a % 18446744073709551616 ∧ a % 18446744073709551616 < 18446744073709551616
    omega
  generalize IntKind.u64.wrap a = y at h2
  refine ⟨(y % (k : Int)).toNat, ?_, ?_⟩
  · have := Int.emod_lt_of_pos y (show (0 : Int) < k by omega)
    have := Int.emod_nonneg y (show (k : Int) ≠ 0 by omega)
    omega
  · have := Int.emod_lt_of_pos y (show (0 : Int) < k by omega)
    have := Int.emod_nonneg y (show (k : Int) ≠ 0 by omega)
    rw [Int.tmod_eq_emod_of_nonneg h2.1, w64 (by omega) (by omega)]
    omega
end Go.Proofs.YtgcdbpnflchobaaDoor.G
end
section
/- What the laws of package back share. -/
namespace Go.Proofs.YtgcdbpnflchobaaDoor.G
open Go.RowKit Go.Proofs.YtgcdbpnflchobaaDoorW.PrintWords Go.Proofs.YtgcdbpnflchobaaDoorW.PrintLast Go.Proofs.YtgcdbpnflchobaaDoorW.PrintMore
set_option linter.unusedVariables false
set_option linter.unusedSimpArgs false
def someB : List Nd := [(⟨0, (-1), ([] : List ByteArray), (⟨#[57]⟩ : ByteArray)⟩ : Nd), (⟨1, 0, (([(⟨#[64, 55, 40, 95, 32, 52, 41]⟩ : ByteArray), (⟨#[53]⟩ : ByteArray)] : List ByteArray)), (⟨#[57]⟩ : ByteArray)⟩ : Nd), (⟨2, 0, ([] : List ByteArray), (⟨#[33]⟩ : ByteArray)⟩ : Nd), (⟨1, 1, (([(⟨#[49]⟩ : ByteArray), (⟨#[95]⟩ : ByteArray)] : List ByteArray)), (⟨#[95]⟩ : ByteArray)⟩ : Nd), (⟨1, 2, (([(⟨#[49]⟩ : ByteArray), (⟨#[95]⟩ : ByteArray)] : List ByteArray)), (⟨#[95]⟩ : ByteArray)⟩ : Nd)]
theorem someB_eq : sleuthlaw24_some.f = some someB := rfl
theorem backAwake_ev : Ev (fun k => sleuthlaw24_awake.f k) true := by
  unfold sleuthlaw24_awake.f
  simp only [someB_eq, Option.bind_some]
  refine Ev.bind (path_ev someB 4) (Ev.bind (last_ev someB) ?_)
  simp only [if_pos (show (2 : Int) ≤ (someB.length : Int) from by decide)]
  refine Ev.bind (last_ev (someB.take 2)) (Ev.bind (path_ev someB 5) (Ev.bind (last_ev []) ?_))
  have e1 : pathS someB 4 = ([4, 2, 0], 0) := by kernel_rfl
  have e2 : lastS someB = (2, true, 0) := by kernel_rfl
  have e3 : lastS (someB.take 2) = (0, false, 0) := by kernel_rfl
  have e4 : pathS someB 5 = ([], 2400) := by kernel_rfl
  have e5 : lastS [] = (0, false, 2400) := by kernel_rfl
  rw [e1, e2, e3, e4, e5]
  refine Ev.bind (sameInts_ev [4, 2, 0] (by simp)) ?_
  simp only [sleuthlaw0_Num.f, Option.bind_some, if_pos, if_neg Bool.false_ne_true]
  exact Ev.now _
end Go.Proofs.YtgcdbpnflchobaaDoor.G
end
section
/- The law BackForms of package back, as a plain statement about what the program computes. -/
namespace Go.Proofs.YtgcdbpnflchobaaDoor.G
open Go.RowKit Go.Proofs.YtgcdbpnflchobaaDoorW.PrintWords Go.Proofs.YtgcdbpnflchobaaDoorW.PrintLast Go.Proofs.YtgcdbpnflchobaaDoorW.PrintMore
set_option linter.unusedVariables false
set_option linter.unusedSimpArgs false
def badB (i : Nat) : List Nd := someB.set i (⟨(rn someB (i : Int)).f0, (rn someB (i : Int)).f1, (rn someB (i : Int)).f2, (⟨#[63]⟩ : ByteArray)⟩ : Nd)
theorem badB_all : ((List.range 4).all fun i => decide (pathS (badB i) 0 = ([], 2400)) && decide (lastS (badB i) = (0, false, 2400))) = true := by kernel_rfl
theorem out_path (a : Int) (h : a < 0 ∨ 5 ≤ a) : pathS someB a = ([], 2400) := by
  have : inB someB a = false := by
    unfold inB
    rw [show (someB.length : Int) = 5 from rfl]
    rcases h with h | h
    · rw [decide_eq_false (show ¬ 0 ≤ a by omega), Bool.false_and, Bool.and_false]
    · rw [decide_eq_false (show ¬ a < 5 by omega), Bool.and_false, Bool.and_false]
  unfold pathS
  rw [this]
  rfl
theorem backForms_pure : sleuthlaw24_BackForms.Pure := by
  intro a0 a1 _ _
  refine Ev.rounds (g := fun k => sleuthlaw24_BackForms.f k a0 a1) ?_
  unfold sleuthlaw24_BackForms.f
  refine Ev.bind backAwake_ev ?_
  obtain ⟨i, hi, ei⟩ : ∃ i : Nat, i < 4 ∧ Go.bits .and .i64 a1 3 = (i : Int) := by
    have h := and_range a1 3 (by omega)
    rw [show ((3 : Nat) : Int) = 3 from rfl] at h
    exact ⟨(Go.bits .and .i64 a1 3).toNat, by omega, by omega⟩
  obtain ⟨j, hj, ej⟩ : ∃ j : Nat, j < 2 ∧ Go.bits .and .i64 a0 1 = (j : Int) := by
    have h := and_range a0 1 (by omega)
    rw [show ((1 : Nat) : Int) = 1 from rfl] at h
    exact ⟨(Go.bits .and .i64 a0 1).toNat, by omega, by omega⟩
  obtain ⟨d, hd, ed⟩ : ∃ d : Nat, d ≤ 1023 ∧ Go.bits .and .i64 a1 1023 = (d : Int) := by
    have h := and_range a1 1023 (by omega)
    rw [show ((1023 : Nat) : Int) = 1023 from rfl] at h
    exact ⟨(Go.bits .and .i64 a1 1023).toNat, by omega, by omega⟩
  have hall := List.all_eq_true.1 badB_all i (List.mem_range.2 hi)
  rw [Bool.and_eq_true, decide_eq_true_iff, decide_eq_true_iff] at hall
  have hd1 : wrap64 (1 + (d : Int)) = 1 + (d : Int) := w64 (by omega) (by omega)
  have hd2 : wrap64 (-(1 + (d : Int))) = -(1 + (d : Int)) := w64 (by omega) (by omega)
  have hd3 : wrap64 (4 + (1 + (d : Int))) = 4 + (1 + (d : Int)) := w64 (by omega) (by omega)
  simp only [someB_eq, Option.bind_some, if_pos, ei, ej, ed, hd1, hd2, hd3]
  have g1 : (0 : Int) ≤ (i : Int) := by omega
  have g2 : (i : Int) < (someB.length : Int) := by show (i : Int) < 5; omega
  have g3 : (0 : Int) ≤ (j : Int) := by omega
  have g4 : (j : Int) < (([-(1 + (d : Int)), 4 + (1 + (d : Int))] : List Int).length : Int) := by show (j : Int) < 2; omega
  simp only [if_pos g1, if_pos g2, if_pos g3, if_pos g4]
  obtain ⟨v, hv, hout⟩ : ∃ v : Int, rd ([-(1 + (d : Int)), 4 + (1 + (d : Int))] : List Int) (j : Int) = v ∧ (v < 0 ∨ 5 ≤ v) := by
    rcases Nat.lt_or_ge j 1 with c | c
    · obtain rfl : j = 0 := by omega
      exact ⟨_, rfl, .inl (by show -(1 + (d : Int)) < 0; omega)⟩
    · obtain rfl : j = 1 := by omega
      exact ⟨_, rfl, .inr (by show 5 ≤ 4 + (1 + (d : Int)); omega)⟩
  have o1 := out_path v hout
  simp only [hv]
  have hb : (someB.set ((i : Int) : Int).toNat (⟨(rn someB (i : Int)).f0, (rn someB (i : Int)).f1, (rn someB (i : Int)).f2, (⟨#[63]⟩ : ByteArray)⟩ : Nd)) = badB i := by rw [Int.toNat_natCast]; rfl
  simp only [hb]
  refine Ev.bind (path_ev (badB i) 0) (Ev.bind (last_ev (badB i)) (Ev.bind (path_ev someB v) ?_))
  rw [hall.1, hall.2, o1]
  simp only [sleuthlaw0_Num.f, Option.bind_some, if_pos, List.length_nil, if_neg Bool.false_ne_true]
  exact Ev.now _
end Go.Proofs.YtgcdbpnflchobaaDoor.G
end
