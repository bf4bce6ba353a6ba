/- Parts of this proof, one behind the other: NextVals, SessVals, AnsVals, AnsWake, G40, AnsNew. -/
import Derived.Test.YtbnljapgnfmmoaaGreatDoorU10
import Derived.Test.YtbnljapgnfmmoaaGreatDoorU5
import Derived.Test.YtbnljapgnfmmoaaGreatDoorU6
import Derived.Test.YtbnljapgnfmmoaaGreatDoorU7
import Derived.Test.YtbnljapgnfmmoaaGreatDoorU8
import Derived.Test.YtbnljapgnfmmoaaGreatDoorU2
import Derived.Test.YtbnljapgnfmmoaaGreatDoorG0
section
/- What package next answers, and the document's answer, as plain functions. -/
namespace Go.Proofs.YtbnljapgnfmmoaaGreatDoor.G
open Go.RowKit Go.Proofs.YtbnljapgnfmmoaaGreatDoorW.PrintWords Go.Proofs.YtbnljapgnfmmoaaGreatDoorW.PrintLast Go.Proofs.YtbnljapgnfmmoaaGreatDoorW.PrintMore
set_option linter.unusedVariables false
set_option linter.unusedSimpArgs false
abbrev An := S53
abbrev ra (zs : List An) (i : Int) : An := rd_T53 zs i
theorem drop_ra (l : List An) (i : Nat) (h : i < l.length) : l.drop i = ra l (i : Int) :: l.drop (i + 1) := by
  rw [List.drop_eq_getElem_cons h]
  congr 1
  show _ = List.getD _ _ _
  rw [Int.toNat_natCast, List.getD_eq_getElem?_getD, List.getElem?_eq_getElem h]; rfl
def markB (x : Int) : Bool := decide (1 ≤ x) && decide (x ≤ 3)
theorem markB_spec {x : Int} (h : markB x = true) : 1 ≤ x ∧ x ≤ 3 := by
  unfold markB at h
  rw [Bool.and_eq_true, decide_eq_true_iff, decide_eq_true_iff] at h
  exact h
theorem mark_eq (x : Int) : next_Mark.f x = some (markB x) := by
  unfold next_Mark.f markB
  by_cases c : 1 ≤ x
  · rw [if_pos (show x ≥ 1 from c), decide_eq_true c, Bool.true_and]
  · rw [if_neg (show ¬ x ≥ 1 from c), decide_eq_false c, Bool.false_and]
def wayB (x : Int) : Bool := x == 0 || x == 1
theorem way_eq (x : Int) : next_Way.f x = some (wayB x) := by
  unfold next_Way.f wayB
  by_cases c : x = 0
  · rw [if_pos c, beq_iff_eq.2 c]; rfl
  · rw [if_neg c, beq_eq_false_iff_ne.2 c]; rfl
theorem wayR_eq (x : Int) : sleuthref12_upTo.f x 0 1 = some (wayB x) := by
  rw [upTo_eq]
  unfold wayB
  congr 1
  rw [Bool.eq_iff_iff, Bool.and_eq_true, Bool.or_eq_true, decide_eq_true_iff, decide_eq_true_iff, beq_iff_eq, beq_iff_eq]
  omega
/-- the marks that answers leave -/
def goA : List An → List Int → Option (List Int)
  | [], m => some m
  | a :: zs, m => if (decide (0 ≤ a.f0) && decide (a.f0 < (m.length : Int))) && markB a.f1 then goA zs (m.set a.f0.toNat a.f1) else none
def resA (o : Option (List Int)) : List Int × Int := match o with | some m => (m, 0) | none => ([], 2000)
theorem marks_l0 (zs : List An) (hl : zs.length ≤ 9223372036854775806) : ∀ (n i : Nat) (m : List Int), i + n = zs.length → Ev (fun k => next_Marks.l0 k m zs (zs.length : Int) (i : Int)) (resA (goA (zs.drop i) m)) := by
  intro n
  induction n with
  | zero =>
    intro i m hi
    rw [List.drop_eq_nil_of_le (by omega)]
    refine Ev.step (f := fun _ => some (m, 0)) (fun k => ?_) (Ev.now _)
    rw [next_Marks.l0, if_neg (by omega)]
  | succ n ih =>
    intro i m hi
    have hw : wrap64 ((i : Int) + 1) = ((i + 1 : Nat) : Int) := by rw [w64 (by omega) (by omega)]; omega
    rw [drop_ra zs i (by omega), goA]
    obtain ⟨a, ha⟩ : ∃ a, ra zs (i : Int) = a := ⟨_, rfl⟩
    have ha' : rd_T53 zs (i : Int) = a := ha
    rw [ha]
    by_cases c0 : 0 ≤ a.f0
    · by_cases c1 : a.f0 < (m.length : Int)
      · rw [decide_eq_true c0, decide_eq_true c1, Bool.and_self, Bool.true_and]
        by_cases c2 : markB a.f1 = true
        · rw [if_pos c2]
          refine Ev.step (f := fun k => next_Marks.l0 k (m.set a.f0.toNat a.f1) zs (zs.length : Int) ((i + 1 : Nat) : Int)) (fun k => ?_) (ih (i + 1) _ (by omega))
          rw [next_Marks.l0, if_pos (by omega), if_pos (by omega), if_pos (by omega), ha', if_neg (by omega), if_neg (by omega), mark_eq, Option.bind_some, if_pos c2, if_pos c0, if_pos c1, hw]
        · rw [if_neg c2]
          refine Ev.step (f := fun _ => some ([], 2000)) (fun k => ?_) (Ev.now _)
          rw [next_Marks.l0, if_pos (by omega), if_pos (by omega), if_pos (by omega), ha', if_neg (by omega), if_neg (by omega), mark_eq, Option.bind_some, if_neg c2]
      · rw [decide_eq_false c1, Bool.and_false, Bool.false_and, if_neg Bool.false_ne_true]
        refine Ev.step (f := fun _ => some ([], 2000)) (fun k => ?_) (Ev.now _)
        rw [next_Marks.l0, if_pos (by omega), if_pos (by omega), if_pos (by omega), ha', if_neg (by omega), if_pos (by omega)]
    · rw [decide_eq_false c0, Bool.false_and, Bool.false_and, if_neg Bool.false_ne_true]
      refine Ev.step (f := fun _ => some ([], 2000)) (fun k => ?_) (Ev.now _)
      rw [next_Marks.l0, if_pos (by omega), if_pos (by omega), if_pos (by omega), ha', if_pos (by omega)]
def marksF (ns : List Nd) (zs : List An) : List Int × Int := if (mayT ns && decide (zs.length ≤ 512)) = true then resA (goA zs (List.replicate ns.length 0)) else ([], 2000)
theorem marks_ev (ns : List Nd) (w : Int) (zs : List An) : Ev (fun k => next_Marks.f k ns w zs) (marksF ns zs) := by
  unfold next_Marks.f marksF
  refine Ev.bind (trailMay_ev ns) ?_
  cases hm : mayT ns with
  | false =>
    simp only [if_neg Bool.false_ne_true, Bool.false_and]
    refine Ev.step (f := fun _ => some ([], 2000)) (fun k => ?_) (Ev.now _)
    rw [next_Marks.j0, if_pos rfl]
  | true =>
    have hlen := mayT_len hm
    simp only [if_pos, Bool.true_and]
    by_cases c : zs.length ≤ 512
    · rw [decide_eq_false (show ¬ (zs.length : Int) > 512 by omega), if_pos (decide_eq_true c)]
      have h := marks_l0 zs (by omega) zs.length 0 (List.replicate ns.length 0) (by omega)
      refine Ev.step (fun k => ?_) h
      rw [next_Marks.j0, if_neg Bool.false_ne_true, if_pos (by omega), Int.toNat_natCast, if_pos (by omega)]; rfl
    · rw [decide_eq_true (show (zs.length : Int) > 512 by omega), if_neg (by rw [decide_eq_true_iff]; exact c)]
      refine Ev.step (f := fun _ => some ([], 2000)) (fun k => ?_) (Ev.now _)
      rw [next_Marks.j0, if_pos rfl]
theorem goA_ok : ∀ (zs : List An) (m m' : List Int), goA zs m = some m' → m'.length = m.length ∧ ((∀ x ∈ m, oddB x = false) → ∀ x ∈ m', oddB x = false)
  | [], m, m', h => by
    obtain rfl := Option.some.inj h
    exact ⟨rfl, fun hh => hh⟩
  | a :: zs, m, m', h => by
    rw [goA] at h
    by_cases c : ((decide (0 ≤ a.f0) && decide (a.f0 < (m.length : Int))) && markB a.f1) = true
    · rw [if_pos c] at h
      rw [Bool.and_eq_true] at c
      have hb := markB_spec c.2
      obtain ⟨h1, h2⟩ := goA_ok zs _ m' h
      rw [List.length_set] at h1
      refine ⟨h1, fun hh => h2 fun x hx => ?_⟩
      rcases List.mem_or_eq_of_mem_set hx with hx | rfl
      · exact hh x hx
      · unfold oddB
        rw [decide_eq_false (by omega), decide_eq_false (by omega)]; rfl
    · rw [if_neg c] at h; cases h
theorem marksF_ok {ns : List Nd} {zs : List An} (h : (marksF ns zs).2 = 0) : marksS ns (marksF ns zs).1 = true ∧ zs.length ≤ 512 ∧ goA zs (List.replicate ns.length 0) = some (marksF ns zs).1 := by
  unfold marksF at h ⊢
  by_cases c : (mayT ns && decide (zs.length ≤ 512)) = true
  · rw [if_pos c] at h ⊢
    rw [Bool.and_eq_true, decide_eq_true_iff] at c
    cases hg : goA zs (List.replicate ns.length 0) with
    | none => rw [hg] at h; exact absurd h (by decide)
    | some m =>
      obtain ⟨h1, h2⟩ := goA_ok zs _ m hg
      rw [List.length_replicate] at h1
      refine ⟨?_, c.2, rfl⟩
      show marksS ns m = true
      unfold marksS
      rw [c.1, h1, decide_eq_true rfl, Bool.true_and, Bool.true_and, Bool.not_eq_true']
      rw [List.any_eq_false]
      intro x hx
      rw [h2 (fun y hy => by rw [List.eq_of_mem_replicate hy]; rfl) x hx]
      exact Bool.false_ne_true
  · rw [if_neg c] at h; exact absurd h (by decide)
def askW (w : Int) (ns : List Nd) (ms : List Int) : Int × Int := if w = 1 then askH ns ms else askT ns ms
theorem nextAsk_ev {ns : List Nd} {ms : List Int} (h : marksS ns ms = true) (w : Int) : Ev (fun k => next_Ask.f k w ns ms) (askW w ns ms) := by
  unfold next_Ask.f askW
  by_cases c : w = 1
  · simp only [if_pos c]; exact Ev.bind (askH_ev h) (Ev.now _)
  · simp only [if_neg c]; exact Ev.bind (ask_ev h) (Ev.now _)
def stepF (ns : List Nd) (w : Int) (zs : List An) : Int × Int × Int := if (marksF ns zs).2 = 0 then (if wayB w = true then ((askW w ns (marksF ns zs).1).1, (askW w ns (marksF ns zs).1).2, 0) else (0, 0, 2000)) else (0, 0, 2000)
theorem step_ev (ns : List Nd) (w : Int) (zs : List An) : Ev (fun k => next_Step.f k ns w zs) (stepF ns w zs) := by
  unfold next_Step.f stepF
  refine Ev.bind (marks_ev ns w zs) ?_
  by_cases c : (marksF ns zs).2 = 0
  · simp only [if_pos c, way_eq, Option.bind_some]
    by_cases d : wayB w = true
    · simp only [if_pos d]; exact Ev.bind (nextAsk_ev (marksF_ok c).1 w) (Ev.now _)
    · simp only [if_neg d]; exact Ev.now _
  · simp only [if_neg c]; exact Ev.now _
theorem askT_facts {ns : List Nd} {ms : List Int} (h : marksS ns ms = true) : 0 ≤ (askT ns ms).2 ∧ (askT ns ms).2 < (ns.length : Int) ∧ ((askT ns ms).1 = 0 → rd ms (askT ns ms).2 = 0) := by
  obtain ⟨hm, hl, hx⟩ := marksS_spec h
  have hlen := mayT_len hm
  unfold askT
  by_cases c0 : rd ms 0 = 0
  · rw [if_pos c0]; exact ⟨Int.le_refl _, by show (0 : Int) < _; omega, fun _ => c0⟩
  · rw [if_neg c0]
    by_cases c1 : rd ms 0 = 1
    · rw [if_pos c1]; exact ⟨Int.le_refl _, by show (0 : Int) < _; omega, fun hh => absurd hh (by decide)⟩
    · rw [if_neg c1]
      by_cases c3 : rd ms 0 = 3
      · rw [if_pos c3]; exact ⟨Int.le_refl _, by show (0 : Int) < _; omega, fun hh => absurd hh (by decide)⟩
      · rw [if_neg c3]
        have h00 := marks_at h 0 (by omega)
        rw [show ((0 : Nat) : Int) = 0 from rfl] at h00
        have hd := downT_spec (ns := ns) (ms := ms) ns.length 0 (by omega) (by omega) (by omega) (by omega)
        generalize downT ns ms ns.length 0 = b at hd
        unfold finT
        cases hf : fstK ns ms b 0 with
        | some k =>
          have hk := fstK_spec hf
          exact ⟨by show 0 ≤ k; omega, hk.2.1, fun _ => hk.2.2.2⟩
        | none =>
          unfold bugS
          simp only []
          split
          · exact ⟨hd.1, hd.2.1, fun hh => absurd hh (show ¬ (1 : Int) = 0 by decide)⟩
          · exact ⟨Int.le_refl _, by show (0 : Int) < _; omega, fun hh => absurd hh (by decide)⟩
theorem askH_facts {ns : List Nd} {ms : List Int} (h : marksS ns ms = true) : 0 ≤ (askH ns ms).2 ∧ (askH ns ms).2 < (ns.length : Int) ∧ ((askH ns ms).1 = 0 → rd ms (askH ns ms).2 = 0) := by
  obtain ⟨hm, hl, hx⟩ := marksS_spec h
  have hlen := mayT_len hm
  unfold askH
  by_cases c2 : rd ms 0 = 2
  · rw [if_pos c2]
    have hr := lastM_range ms ms.length (by omega)
    generalize lastM ms ms.length = w at hr
    have hbr := bestH_range (szH ns (dbt ns ms w.toNat ns.length) ms) (dbt ns ms w.toNat ns.length) ms (rd (szH ns (dbt ns ms w.toNat ns.length) ms) w) ns.length
    have hbs := bestH_spec (szH ns (dbt ns ms w.toNat ns.length) ms) (dbt ns ms w.toNat ns.length) ms (rd (szH ns (dbt ns ms w.toNat ns.length) ms) w) ns.length
    generalize bestH (szH ns (dbt ns ms w.toNat ns.length) ms) (dbt ns ms w.toNat ns.length) ms (rd (szH ns (dbt ns ms w.toNat ns.length) ms) w) ns.length = b at hbr hbs
    by_cases cb : b < 0
    · rw [if_pos cb]
      unfold bugS
      split
      · exact ⟨hr.1, by show w < _; omega, fun hh => absurd hh (show ¬ (1 : Int) = 0 by decide)⟩
      · exact ⟨Int.le_refl _, by show (0 : Int) < _; omega, fun hh => absurd hh (by decide)⟩
    · rw [if_neg cb]
      have h1 := hbs (by omega)
      unfold openB at h1
      rw [Bool.and_eq_true, beq_iff_eq] at h1
      exact ⟨by show 0 ≤ b; omega, hbr.2, fun _ => h1.2⟩
  · rw [if_neg c2]; exact askT_facts h
theorem askW_facts {ns : List Nd} {ms : List Int} (h : marksS ns ms = true) (w : Int) : 0 ≤ (askW w ns ms).2 ∧ (askW w ns ms).2 < (ns.length : Int) ∧ ((askW w ns ms).1 = 0 → rd ms (askW w ns ms).2 = 0) := by
  unfold askW
  split
  · exact askH_facts h
  · exact askT_facts h
theorem sameAnswers_l0 (a : List An) (ha : a.length ≤ 9223372036854775806) : ∀ (n i : Nat), i + n = a.length → Ev (fun k => sleuthlaw0_SameAnswers.l0 k a a (i : Int)) true := by
  intro n
  induction n with
  | zero =>
    intro i hi
    refine Ev.step (f := fun _ => some true) (fun k => ?_) (Ev.now _)
    rw [sleuthlaw0_SameAnswers.l0, if_neg (by omega)]
  | succ n ih =>
    intro i hi
    have hw : wrap64 ((i : Int) + 1) = ((i + 1 : Nat) : Int) := by rw [w64 (by omega) (by omega)]; omega
    refine Ev.step (f := fun k => sleuthlaw0_SameAnswers.l0 k a a ((i + 1 : Nat) : Int)) (fun k => ?_) (ih (i + 1) (by omega))
    rw [sleuthlaw0_SameAnswers.l0, if_pos (by omega), if_pos (by omega), if_pos (by omega), hw]
    simp only [BEq.rfl, Bool.not_true, Bool.or_self, if_neg Bool.false_ne_true]
theorem sameAnswers_ev (a : List An) (ha : a.length ≤ 9223372036854775806) : Ev (fun k => sleuthlaw0_SameAnswers.f k a a) true := by
  unfold sleuthlaw0_SameAnswers.f
  simp only [if_pos]
  exact sameAnswers_l0 a ha a.length 0 (by omega)
theorem sameSession_ev (ns : List Nd) (hok : okN ns) (w : Int) (zs : List An) (hz : zs.length ≤ 9223372036854775806) : Ev (fun k => sleuthlaw0_SameSession.f k ns w zs ns w zs) true := by
  unfold sleuthlaw0_SameSession.f
  refine Ev.bind (sameNodes_ev ns hok) ?_
  simp only [if_pos]
  exact Ev.bind (sameAnswers_ev zs hz) (Ev.now _)
end Go.Proofs.YtbnljapgnfmmoaaGreatDoor.G
end
section
/- What package session answers, and the document's answer, as plain functions. -/
namespace Go.Proofs.YtbnljapgnfmmoaaGreatDoor.G
open Go.RowKit Go.Proofs.YtbnljapgnfmmoaaGreatDoorW.PrintWords Go.Proofs.YtbnljapgnfmmoaaGreatDoorW.PrintLast Go.Proofs.YtbnljapgnfmmoaaGreatDoorW.PrintMore
set_option linter.unusedVariables false
set_option linter.unusedSimpArgs false
theorem marksS_set {ns : List Nd} {m : List Int} (h : marksS ns m = true) (i : Nat) (v : Int) (hv : markB v = true) : marksS ns (m.set i v) = true := by
  obtain ⟨hm, hl, hx⟩ := marksS_spec h
  have hb := markB_spec hv
  unfold marksS
  rw [hm, List.length_set, hl, decide_eq_true rfl, Bool.true_and, Bool.true_and, Bool.not_eq_true', List.any_eq_false]
  intro x hx'
  rcases List.mem_or_eq_of_mem_set hx' with h1 | rfl
  · rw [hx x h1]; exact Bool.false_ne_true
  · unfold oddB
    rw [decide_eq_false (by omega), decide_eq_false (by omega)]; exact Bool.false_ne_true
theorem marksS_zero {ns : List Nd} (h : mayT ns = true) : marksS ns (List.replicate ns.length 0) = true := by
  unfold marksS
  rw [h, List.length_replicate, decide_eq_true rfl, Bool.true_and, Bool.true_and, Bool.not_eq_true', List.any_eq_false]
  intro x hx
  rw [List.eq_of_mem_replicate hx]
  exact Bool.false_ne_true
/-- are these the answers of a search? -/
def goS (ns : List Nd) (w : Int) : List An → List Int → Bool
  | [], _ => true
  | a :: t, m => if (!((askW w ns m).1 == 0) || (!((askW w ns m).2 == a.f0))) = true then false else if markB a.f1 = true then goS ns w t (m.set a.f0.toNat a.f1) else false
theorem goS_step {ns : List Nd} {w : Int} {a : An} {t : List An} {m : List Int} (h : goS ns w (a :: t) m = true) : (askW w ns m).1 = 0 ∧ (askW w ns m).2 = a.f0 ∧ markB a.f1 = true ∧ goS ns w t (m.set a.f0.toNat a.f1) = true := by
  rw [goS] at h
  by_cases c : (!((askW w ns m).1 == 0) || (!((askW w ns m).2 == a.f0))) = true
  · rw [if_pos c] at h; cases h
  · rw [if_neg c] at h
    by_cases d : markB a.f1 = true
    · rw [if_pos d] at h
      rw [Bool.or_eq_true, Bool.not_eq_true', Bool.not_eq_true', beq_eq_false_iff_ne, beq_eq_false_iff_ne] at c
      exact ⟨Classical.not_not.1 fun e => c (.inl e), Classical.not_not.1 fun e => c (.inr e), d, h⟩
    · rw [if_neg d] at h; cases h
theorem may_l0 (ns : List Nd) (w : Int) (zs : List An) (hz : zs.length ≤ 9223372036854775806) : ∀ (n i : Nat) (m : List Int), i + n = zs.length → marksS ns m = true → Ev (fun k => session_May.l0 k ns w zs m (i : Int)) (goS ns w (zs.drop i) m) := by
  intro n
  induction n with
  | zero =>
    intro i m hi hm
    rw [List.drop_eq_nil_of_le (by omega)]
    refine Ev.step (f := fun _ => some true) (fun k => ?_) (Ev.now _)
    rw [session_May.l0, if_neg (by omega)]
  | succ n ih =>
    intro i m hi hm
    have hw : wrap64 ((i : Int) + 1) = ((i + 1 : Nat) : Int) := by rw [w64 (by omega) (by omega)]; omega
    have hlt : (i : Int) < (zs.length : Int) := by omega
    have hf := askW_facts hm w
    have ha := nextAsk_ev hm w
    have hml := (marksS_spec hm).2.1
    rw [drop_ra zs i (by omega), goS]
    obtain ⟨a, hae⟩ : ∃ a, ra zs (i : Int) = a := ⟨_, rfl⟩
    have hae' : rd_T53 zs (i : Int) = a := hae
    rw [hae]
    generalize askW w ns m = b at ha hf
    refine Ev.step (f := fun k => (next_Ask.f k w ns m).bind fun b => if (!(b.1 == 0) || (!(b.2 == a.f0))) = true then some false else (next_Mark.f a.f1).bind fun t => if t = true then (if 0 ≤ a.f0 ∧ a.f0 < (m.length : Int) then session_May.l0 k ns w zs (m.set a.f0.toNat a.f1) ((i + 1 : Nat) : Int) else none) else some false) (fun k => by rw [session_May.l0, if_pos hlt, hae', hw]) ?_
    refine Ev.bind ha ?_
    by_cases c : (!(b.1 == 0) || (!(b.2 == a.f0))) = true
    · simp only [if_pos c]; exact Ev.now _
    · simp only [if_neg c, mark_eq, Option.bind_some]
      rw [Bool.or_eq_true, Bool.not_eq_true', Bool.not_eq_true', beq_eq_false_iff_ne, beq_eq_false_iff_ne] at c
      have e1 : b.2 = a.f0 := Classical.not_not.1 fun e => c (.inr e)
      by_cases d : markB a.f1 = true
      · have g : 0 ≤ a.f0 ∧ a.f0 < (m.length : Int) := by rw [← e1]; exact ⟨hf.1, by omega⟩
        simp only [if_pos d, if_pos g]
        exact ih (i + 1) _ (by omega) (marksS_set hm _ _ d)
      · simp only [if_neg d]; exact Ev.now _
def sessS (ns : List Nd) (w : Int) (zs : List An) : Bool := if (mayT ns && wayB w) = true then goS ns w zs (List.replicate ns.length 0) else false
theorem fresh_ev (ns : List Nd) (w : Int) : Ev (fun k => session_fresh.f k ns w) (mayT ns && wayB w) := by
  unfold session_fresh.f
  refine Ev.bind (trailMay_ev ns) ?_
  cases mayT ns with
  | false => simp only [if_neg Bool.false_ne_true, Bool.false_and]; exact Ev.now _
  | true => simp only [if_pos, Bool.true_and, way_eq]; exact Ev.now _
theorem sessMay_ev (ns : List Nd) (w : Int) (zs : List An) (hz : zs.length ≤ 9223372036854775806) : Ev (fun k => session_May.f k ns w zs) (sessS ns w zs) := by
  unfold session_May.f sessS
  refine Ev.bind (fresh_ev ns w) ?_
  by_cases c : (mayT ns && wayB w) = true
  · simp only [if_pos c]
    rw [Bool.and_eq_true] at c
    have := may_l0 ns w zs hz zs.length 0 (List.replicate ns.length 0) (by omega) (marksS_zero c.1)
    rw [List.drop_zero] at this
    exact this
  · simp only [if_neg c]; exact Ev.now _
/-- how many nodes have no mark -/
def zeros : List Int → Nat
  | [] => 0
  | x :: t => (if x = 0 then 1 else 0) + zeros t
theorem zeros_le : ∀ m : List Int, zeros m ≤ m.length
  | [] => Nat.le_refl _
  | x :: t => by
    have := zeros_le t
    rw [zeros, List.length_cons]
    split <;> omega
theorem zeros_set : ∀ (m : List Int) (i : Nat) (v : Int), v ≠ 0 → m.getD i 1 = 0 → zeros (m.set i v) + 1 = zeros m
  | [], i, v, _, h => by simp at h
  | x :: t, 0, v, hv, h => by
    have hx : x = 0 := by simpa using h
    show zeros (v :: t) + 1 = _
    rw [zeros, zeros, if_neg hv, if_pos hx]; omega
  | x :: t, i + 1, v, hv, h => by
    have := zeros_set t i v hv (by simpa using h)
    show zeros (x :: t.set i v) + 1 = _
    rw [zeros, zeros]; omega
theorem getD_rd (m : List Int) (i : Int) (h0 : 0 ≤ i) (h1 : i < (m.length : Int)) : m.getD i.toNat 1 = rd m i := by
  show _ = List.getD _ _ _
  rw [List.getD_eq_getElem?_getD, List.getD_eq_getElem?_getD, List.getElem?_eq_getElem (show i.toNat < m.length by omega)]; rfl
theorem goS_ask {ns : List Nd} {w : Int} {a : An} {t : List An} {m : List Int} (hm : marksS ns m = true) (h : goS ns w (a :: t) m = true) : 0 ≤ a.f0 ∧ a.f0 < (m.length : Int) ∧ rd m a.f0 = 0 ∧ markB a.f1 = true ∧ marksS ns (m.set a.f0.toNat a.f1) = true ∧ goS ns w t (m.set a.f0.toNat a.f1) = true := by
  obtain ⟨h1, h2, h3, h4⟩ := goS_step h
  have hf := askW_facts hm w
  have hl := (marksS_spec hm).2.1
  rw [h2] at hf
  exact ⟨hf.1, by omega, hf.2.2 h1, h3, marksS_set hm _ _ h3, h4⟩
theorem goS_len {ns : List Nd} {w : Int} : ∀ (zs : List An) (m : List Int), marksS ns m = true → goS ns w zs m = true → zs.length ≤ zeros m
  | [], m, _, _ => Nat.zero_le _
  | a :: t, m, hm, h => by
    obtain ⟨h0, h1, h2, h3, h4, h5⟩ := goS_ask hm h
    have ih := goS_len t _ h4 h5
    have hb := markB_spec h3
    have := zeros_set m a.f0.toNat a.f1 (by omega) (by rw [getD_rd m a.f0 h0 h1]; exact h2)
    rw [List.length_cons]; omega
theorem goS_max {ns : List Nd} {w : Int} {zs : List An} (hm : mayT ns = true) (h : goS ns w zs (List.replicate ns.length 0) = true) : zs.length ≤ ns.length := by
  have h1 := goS_len zs _ (marksS_zero hm) h
  have h2 := zeros_le (List.replicate ns.length 0)
  rw [List.length_replicate] at h2
  omega
theorem goS_take {ns : List Nd} {w : Int} : ∀ (zs : List An) (m : List Int) (n : Nat), goS ns w zs m = true → goS ns w (zs.take n) m = true
  | [], m, n, h => by rw [List.take_nil]; exact h
  | a :: t, m, 0, h => by rw [List.take_zero]; rfl
  | a :: t, m, n + 1, h => by
    obtain ⟨h1, h2, h3, h4⟩ := goS_step h
    rw [List.take_succ_cons, goS, if_neg (by rw [h1, h2]; simp), if_pos h3]
    exact goS_take t _ n h4
end Go.Proofs.YtbnljapgnfmmoaaGreatDoor.G
end
section
/- What package answer answers, as plain functions. -/
namespace Go.Proofs.YtbnljapgnfmmoaaGreatDoor.G
open Go.RowKit Go.Proofs.YtbnljapgnfmmoaaGreatDoorW.PrintWords Go.Proofs.YtbnljapgnfmmoaaGreatDoorW.PrintLast Go.Proofs.YtbnljapgnfmmoaaGreatDoorW.PrintMore
set_option linter.unusedVariables false
set_option linter.unusedSimpArgs false
/-- the marks behind answers -/
def finM : List An → List Int → List Int
  | [], m => m
  | a :: t, m => finM t (m.set a.f0.toNat a.f1)
theorem goS_fin {ns : List Nd} {w : Int} : ∀ (zs : List An) (m : List Int), marksS ns m = true → goS ns w zs m = true → goA zs m = some (finM zs m) ∧ marksS ns (finM zs m) = true
  | [], m, hm, _ => ⟨rfl, hm⟩
  | a :: t, m, hm, h => by
    obtain ⟨h0, h1, h2, h3, h4, h5⟩ := goS_ask hm h
    obtain ⟨i1, i2⟩ := goS_fin t _ h4 h5
    refine ⟨?_, i2⟩
    rw [goA, decide_eq_true h0, decide_eq_true h1, h3, Bool.and_self, Bool.and_self, if_pos rfl]
    exact i1
theorem goS_app {ns : List Nd} {w : Int} : ∀ (zs t : List An) (m : List Int), goS ns w zs m = true → goS ns w (zs ++ t) m = goS ns w t (finM zs m)
  | [], t, m, _ => rfl
  | a :: zs, t, m, h => by
    obtain ⟨h1, h2, h3, h4⟩ := goS_step h
    rw [List.cons_append, goS, if_neg (by rw [h1, h2]; simp), if_pos h3]
    exact goS_app zs t _ h4
def lastM' (ns : List Nd) (zs : List An) : List Int := finM zs (List.replicate ns.length 0)
theorem sess_spec {ns : List Nd} {w : Int} {zs : List An} (h : sessS ns w zs = true) : mayT ns = true ∧ wayB w = true ∧ goS ns w zs (List.replicate ns.length 0) = true ∧ zs.length ≤ ns.length ∧ marksS ns (lastM' ns zs) = true ∧ stepF ns w zs = ((askW w ns (lastM' ns zs)).1, (askW w ns (lastM' ns zs)).2, 0) := by
  unfold sessS at h
  by_cases c : (mayT ns && wayB w) = true
  · rw [if_pos c] at h
    rw [Bool.and_eq_true] at c
    have hlen := mayT_len c.1
    have hmax := goS_max c.1 h
    obtain ⟨h1, h2⟩ := goS_fin zs _ (marksS_zero c.1) h
    refine ⟨c.1, c.2, h, hmax, h2, ?_⟩
    have e : marksF ns zs = (lastM' ns zs, 0) := by
      unfold marksF
      rw [c.1, decide_eq_true (show zs.length ≤ 512 by omega), Bool.and_self, if_pos rfl, h1]; rfl
    unfold stepF
    rw [e, if_pos rfl, if_pos c.2]
  · rw [if_neg c] at h; cases h
theorem sess_put {ns : List Nd} {w : Int} {zs : List An} {mk : Int} (h : sessS ns w zs = true) (ha : (askW w ns (lastM' ns zs)).1 = 0) (hm : markB mk = true) : sessS ns w (zs ++ [⟨(askW w ns (lastM' ns zs)).2, mk⟩]) = true := by
  obtain ⟨h1, h2, h3, _, _, _⟩ := sess_spec h
  unfold sessS
  rw [h1, h2, Bool.and_self, if_pos rfl, goS_app zs _ _ h3]
  show goS ns w [_] (lastM' ns zs) = true
  rw [goS, if_neg (by rw [ha]; simp), if_pos hm]
  rfl
def putF (ns : List Nd) (w : Int) (zs : List An) (mk : Int) : List Nd × Int × List An × Int :=
  if sessS ns w zs = true then (if markB mk = true then (if (askW w ns (lastM' ns zs)).1 = 0 then (ns, w, zs ++ [⟨(askW w ns (lastM' ns zs)).2, mk⟩], 0) else ([], 0, [], 2201)) else ([], 0, [], 2200)) else ([], 0, [], 2200)
theorem fit_of {ns : List Nd} {zs : List An} (hok : okN ns) (hz : zs.length ≤ 8796093022208) : sc_fit ns zs = true := by
  unfold sc_fit
  rw [decide_eq_true (show ns.length ≤ 2513169434916 by have := hok.1; omega), Bool.true_and, decide_eq_true hz, Bool.true_and]
  exact List.all_eq_true.2 fun x hx => decide_eq_true (by have := hok.2 x hx; omega)
theorem put_ev (ns : List Nd) (hok : okN ns) (w : Int) (zs : List An) (hz : zs.length ≤ 9223372036854775806) (mk : Int) : Ev (fun k => answer_Put.f k ns w zs mk) (putF ns w zs mk) := by
  unfold answer_Put.f putF
  refine Ev.bind (sessMay_ev ns w zs hz) ?_
  by_cases c : sessS ns w zs = true
  · simp only [if_pos c, mark_eq, Option.bind_some]
    by_cases d : markB mk = true
    · rw [if_pos d, d]
      obtain ⟨h1, h2, h3, h4, h5, h6⟩ := sess_spec c
      have hlen := mayT_len h1
      have hfit : sc_fit ns zs = true := fit_of hok (by omega)
      have hlt : zs.length < 8796093022208 := by omega
      refine Ev.step (f := fun k => (next_Step.f k ns w zs).bind fun bt207 => (if bt207.1 = 0 then ((session_Copy.f ns w zs).bind fun bt211 => (if bt211.2.2.length < 8796093022208 then (some (bt211.1, bt211.2.1, (bt211.2.2 ++ [(⟨bt207.2.1, mk⟩ : An)]), 0)) else (none))) else (some (([] : List Nd), 0, ([] : List An), 2201)))) (fun k => by rw [answer_Put.j0, Bool.not_true, if_neg Bool.false_ne_true]) ?_
      have hs := step_ev ns w zs
      rw [h6] at hs
      refine Ev.bind hs ?_
      unfold session_Copy.f
      by_cases e : (askW w ns (lastM' ns zs)).1 = 0
      · simp only [if_pos e, if_pos hfit, Option.bind_some, if_pos hlt]; exact Ev.now _
      · simp only [if_neg e]; exact Ev.now _
    · rw [if_neg d]
      rw [Bool.not_eq_true] at d
      rw [d]
      refine Ev.step (f := fun _ => some ([], 0, [], 2200)) (fun k => by rw [answer_Put.j0, Bool.not_false, if_pos rfl]) (Ev.now _)
  · simp only [if_neg c]
    refine Ev.step (f := fun _ => some ([], 0, [], 2200)) (fun k => by rw [answer_Put.j0, if_pos rfl]) (Ev.now _)
def undoF (ns : List Nd) (w : Int) (zs : List An) : List Nd × Int × List An × Int :=
  if sessS ns w zs = true then (if zs.length = 0 then ([], 0, [], 2201) else (ns, w, zs.take (zs.length - 1), 0)) else ([], 0, [], 2200)
theorem undo_ev (ns : List Nd) (hok : okN ns) (w : Int) (zs : List An) (hz : zs.length ≤ 9223372036854775806) : Ev (fun k => answer_Undo.f k ns w zs) (undoF ns w zs) := by
  unfold answer_Undo.f undoF
  refine Ev.bind (sessMay_ev ns w zs hz) ?_
  by_cases c : sessS ns w zs = true
  · simp only [if_pos c]
    obtain ⟨h1, h2, h3, h4, h5, h6⟩ := sess_spec c
    have hlen := mayT_len h1
    have hfit : sc_fit ns zs = true := fit_of hok (by omega)
    by_cases d : zs.length = 0
    · have d' : (zs.length : Int) = 0 := by omega
      simp only [if_pos d, if_pos d']; exact Ev.now _
    · have d' : ¬ (zs.length : Int) = 0 := by omega
      have hw : wrap64 ((zs.length : Int) - 1) = ((zs.length - 1 : Nat) : Int) := by rw [w64 (by omega) (by omega)]; omega
      have g0 : (0 : Int) ≤ ((zs.length - 1 : Nat) : Int) := by omega
      have g1 : ((zs.length - 1 : Nat) : Int) ≤ (zs.length : Int) := by omega
      unfold session_Copy.f
      simp only [if_neg d, if_neg d', if_pos hfit, Option.bind_some, hw, if_pos g0, if_pos g1, Int.toNat_natCast]
      exact Ev.now _
  · simp only [if_neg c]; exact Ev.now _
end Go.Proofs.YtbnljapgnfmmoaaGreatDoor.G
end
section
/- What the laws of package answer share. -/
namespace Go.Proofs.YtbnljapgnfmmoaaGreatDoor.G
open Go.RowKit Go.Proofs.YtbnljapgnfmmoaaGreatDoorW.PrintWords Go.Proofs.YtbnljapgnfmmoaaGreatDoorW.PrintLast Go.Proofs.YtbnljapgnfmmoaaGreatDoorW.PrintMore
set_option linter.unusedVariables false
set_option linter.unusedSimpArgs false
def ansSome : List Nd := [(⟨0, (-1), ([] : List ByteArray), (⟨#[57]⟩ : ByteArray)⟩ : Nd), (⟨1, 0, (([(⟨#[64, 55, 40, 95, 32, 52, 41]⟩ : ByteArray), (⟨#[53]⟩ : ByteArray)] : List ByteArray)), (⟨#[57]⟩ : ByteArray)⟩ : Nd), (⟨2, 0, ([] : List ByteArray), (⟨#[33]⟩ : ByteArray)⟩ : Nd), (⟨1, 1, (([(⟨#[49]⟩ : ByteArray), (⟨#[95]⟩ : ByteArray)] : List ByteArray)), (⟨#[95]⟩ : ByteArray)⟩ : Nd), (⟨1, 2, (([(⟨#[49]⟩ : ByteArray), (⟨#[95]⟩ : ByteArray)] : List ByteArray)), (⟨#[95]⟩ : ByteArray)⟩ : Nd)]
theorem ansSome_eq : sleuthlaw22_some.f = some ansSome := rfl
theorem ansSome_ok : okN ansSome := ⟨by decide, by
  intro x hx
  have h : (ansSome.all fun x => decide (x.f2.length ≤ 8796093021952)) = true := by kernel_rfl
  exact of_decide_eq_true (List.all_eq_true.1 h x hx)⟩
theorem sameAnswers_lit : Ev (fun k => sleuthlaw0_SameAnswers.f k ([⟨0, 2⟩, ⟨1, 1⟩] : List An) [⟨0, 2⟩, ⟨1, 1⟩]) true := sameAnswers_ev _ (by decide)
theorem ansAwake_ev : Ev (fun k => sleuthlaw22_awake.f k) true := by
  unfold sleuthlaw22_awake.f
  simp only [ansSome_eq, Option.bind_some]
  have e1 : putF ansSome 0 [] 2 = (ansSome, 0, [⟨0, 2⟩], 0) := by kernel_rfl
  have e2 : putF ansSome 0 [⟨0, 2⟩] 1 = (ansSome, 0, [⟨0, 2⟩, ⟨1, 1⟩], 0) := by kernel_rfl
  have e3 : undoF ansSome 0 [⟨0, 2⟩, ⟨1, 1⟩] = (ansSome, 0, [⟨0, 2⟩], 0) := by kernel_rfl
  have e4 : undoF ansSome 0 [] = ([], 0, [], 2201) := by kernel_rfl
  have e5 : putF ansSome 0 [] 0 = ([], 0, [], 2200) := by kernel_rfl
  have e6 : putF ansSome 0 [] 1 = (ansSome, 0, [⟨0, 1⟩], 0) := by kernel_rfl
  have e7 : putF ansSome 0 [⟨0, 1⟩] 1 = ([], 0, [], 2201) := by kernel_rfl
  have p1 := put_ev ansSome ansSome_ok 0 [] (Nat.zero_le _) 2
  have p2 := put_ev ansSome ansSome_ok 0 [⟨0, 2⟩] (by decide) 1
  have p3 := undo_ev ansSome ansSome_ok 0 [⟨0, 2⟩, ⟨1, 1⟩] (by decide)
  have p4 := undo_ev ansSome ansSome_ok 0 [] (Nat.zero_le _)
  have p5 := put_ev ansSome ansSome_ok 0 [] (Nat.zero_le _) 0
  have p6 := put_ev ansSome ansSome_ok 0 [] (Nat.zero_le _) 1
  have p7 := put_ev ansSome ansSome_ok 0 [⟨0, 1⟩] (by decide) 1
  rw [e1] at p1
  rw [e2] at p2
  rw [e3] at p3
  rw [e4] at p4
  rw [e5] at p5
  rw [e6] at p6
  rw [e7] at p7
  refine Ev.bind p1 (Ev.bind p2 (Ev.bind p3 (Ev.bind p4 (Ev.bind p5 (Ev.bind p6 (Ev.bind p7 (Ev.bind sameAnswers_lit ?_)))))))
  simp only [if_pos, sleuthlaw0_Num.f, Option.bind_some]
  refine Ev.bind (sameSession_ev ansSome ansSome_ok 0 [⟨0, 2⟩] (by decide)) ?_
  simp only [if_pos, BEq.rfl]
  exact Ev.now _
end Go.Proofs.YtbnljapgnfmmoaaGreatDoor.G
end
section
-- Laid by the session's own driver gp.py over the kit's printer. Not trusted: Lean checks it.
namespace Go.Proofs.YtbnljapgnfmmoaaGreatDoor.G
open Go.RowKit Go.Proofs.YtbnljapgnfmmoaaGreatDoorW.PrintWords Go.Proofs.YtbnljapgnfmmoaaGreatDoorW.PrintLast Go.Proofs.YtbnljapgnfmmoaaGreatDoorW.PrintMore
set_option maxHeartbeats 8000000
set_option maxRecDepth 100000
attribute [local go_sem] max2_int min2_int max_two min_two max_three min_three max_four min_four   -- for this text's walks alone
set_option linter.unusedVariables false
set_option linter.unusedSimpArgs false

def sleuthref12_CopyNodes.l0 : Nat → List (S66) → List (S66) → Int → Option ((List (S66)))
 | 0, _, _, _ => none
 | k + 1, x0, x3, x4 => if x4 < (x0.length : Int) then (if 0 ≤ x4 then ((some (([] : List ByteArray) : List ByteArray)).bind fun y435 => (if y435.length + ((rd_T66 x0 x4).f2).length < 8796093022208 then (if x3.length < 2513169434916 then (sleuthref12_CopyNodes.l0 k x0 (x3 ++ [(⟨(rd_T66 x0 x4).f0, (rd_T66 x0 x4).f1, (y435 ++ ((rd_T66 x0 x4).f2)), (rd_T66 x0 x4).f3⟩ : S66)]) (wrap64 (x4 + 1))) else (none)) else (none))) else (none)) else (some x3)
def sleuthref12_CopyNodes.f (k : Nat) (l0 : List (S66)) : Option ((List (S66))) := sleuthref12_CopyNodes.l0 k l0 ([] : List (S66)) 0
theorem sleuthref12_CopyNodes.mono_l : ∀ k, (∀ y0 y1 y2, LeO (sleuthref12_CopyNodes.l0 k y0 y1 y2) (sleuthref12_CopyNodes.l0 (k + 1) y0 y1 y2))
 | 0 => fun _ _ _ r h => by simp [sleuthref12_CopyNodes.l0] at h
 | k + 1 => by
  have ih0 := sleuthref12_CopyNodes.mono_l k
  · intro y0 y1 y2
    unfold sleuthref12_CopyNodes.l0
    repeat' first
    | (with_reducible exact ih0 _ _ _)
    | (with_reducible exact LeO.refl _)
    | (with_reducible exact LeO.none _)
    | (with_reducible refine LeO.ite ?_ ?_)
    | (with_reducible refine LeO.bind ?_ (fun _ => ?_))
    | exact ih0 _ _ _
    | exact LeO.none _
    | refine LeO.ite ?_ ?_
    | refine LeO.bind ?_ (fun _ => ?_)
theorem sleuthref12_CopyNodes.mono : ∀ a0 k, LeO (sleuthref12_CopyNodes.f k a0) (sleuthref12_CopyNodes.f (k + 1) a0) := by
 intro a0 k
 have ih0 := sleuthref12_CopyNodes.mono_l k
 unfold sleuthref12_CopyNodes.f
 repeat' first
  | (with_reducible exact ih0 _ _ _)
  | (with_reducible exact LeO.refl _)
  | (with_reducible exact LeO.none _)
  | (with_reducible refine LeO.ite ?_ ?_)
  | (with_reducible refine LeO.bind ?_ (fun _ => ?_))
  | exact ih0 _ _ _
  | exact LeO.none _
  | refine LeO.ite ?_ ?_
  | refine LeO.bind ?_ (fun _ => ?_)
theorem sleuthref12_CopyNodes.calls (k : Nat) (A0 : Option Addr) (c0 : Nat) (l0 : List (S66)) (r : List (S66)) (w : World) (hr0 : Kd.C k66 w A0 l0.length l0) (hc0 : l0.length ≤ c0) (h : sleuthref12_CopyNodes.f k l0 = some r) :
 Calls Tryz.prog 34 #[.slice A0 l0.length c0] w fun e w' => ∃ v0_ : Value, e = .returned (v0_) ∧ Kd.S k66 66 w' w.heap.size (fun _ => True) v0_ r ∧ Below w.heap.size w w' := by
 have hu66 := Tryz.underlying66
 have HR0 := a_ hr0
 have HC0 := a_ hc0
 clear hr0 hc0
 have HB := a_ (Below.refl w.heap.size w)
 have H : (sleuthref12_CopyNodes.l0 k l0 ([] : List (S66)) 0) = some r := h
 clear h
 have H' := a_ H
 clear H
 go_enter Tryz.func34, Tryz.ntmps34
 go_wp2
 go_loopg [3, 4] k (fun kq v3 v4 w' => ∃ (x3_1 : List (S66)) (x4_1 : Int), v4 = .int .i64 x4_1 ∧ Aside0 (sleuthref12_CopyNodes.l0 kq l0 x3_1 x4_1 = some r) ∧ Aside0 (kq ≤ k) ∧ Aside0 (Kd.S k66 66 w' w.heap.size (fun _ => True) v3 x3_1) ∧ Aside0 (Below w.heap.size w w'))
 case atStart => exact ⟨(([] : List (S66))), (0), hW_, H', ⟨Nat.le_refl _⟩, ⟨by first | exact Kd.S_nil _ _ _ _ _ | exact Kd.N_nil _ _ _ _ _ | exact Kd.V_nil _ _ _ _ _ | exact Kd.Q_nil _ _ _ _ _ | exact Kd.R_nil _ _ _ _ _⟩, ⟨hC_⟩⟩
 case round =>
  clear H'
  obtain ⟨x3_1, x4_1, rfl, HA, HK1, HO_3, HB⟩ := hrel
  cases gk with
  | zero => exact absurd HA.out (by simp [sleuthref12_CopyNodes.l0])
  | succ k1 =>
   have H := HA.out
   clear HA
   simp only [sleuthref12_CopyNodes.l0] at H
   by_cases c2 : x4_1 < (l0.length : Int)
   case neg =>
    rw [if_neg c2] at H
    have c2b0 : decide (x4_1 < (l0.length : Int)) = false := decide_eq_false c2
    clear c2
    obtain rfl := Option.some.inj H
    go_wp2
    go_ret
    exact ⟨_, hV_, by (with_reducible repeat (first | apply Kd.S_alloc | apply Kd.S_drewN | apply Kd.S_drew)); exact HO_3.out, hC_⟩

   rw [if_pos c2] at H
   have c2b0 : decide (x4_1 < (l0.length : Int)) = true := decide_eq_true c2
   clear c2
   replace H := ifI_ H; obtain ⟨c3, H⟩ := H
   have c3b0 : decide (0 ≤ x4_1) = true := decide_eq_true c3
   clear c3
   obtain ⟨y435, hy435⟩ : ∃ y_ : List ByteArray, y_ = (([] : List ByteArray)) := ⟨_, rfl⟩
   replace H : (if y435.length + ((rd_T66 l0 x4_1).f2).length < 8796093022208 then (if x3_1.length < 2513169434916 then (sleuthref12_CopyNodes.l0 k1 l0 (x3_1 ++ [(⟨(rd_T66 l0 x4_1).f0, (rd_T66 l0 x4_1).f1, (y435 ++ ((rd_T66 l0 x4_1).f2)), (rd_T66 l0 x4_1).f3⟩ : S66)]) (wrap64 (x4_1 + 1))) else (none)) else (none)) = some r := by first | (rw [hy435]; with_reducible exact H) | (have H2_ := (Option.bind_some _ _).symm.trans H; rw [hy435]; with_reducible exact H2_) | (have H2_ := (Option.bind_some _ _).symm.trans H; with_reducible exact H2_) | with_reducible exact H | (rw [hy435]; exact H) | exact H
   have Ny435 := a_ hy435
   clear hy435
   replace H := ifI_ H; obtain ⟨c4, H⟩ := H
   have LMc4 := a_ c4
   clear c4
   obtain ⟨y438, hy438⟩ : ∃ y_ : List ByteArray, y_ = (y435 ++ ((rd_T66 l0 x4_1).f2)) := ⟨_, rfl⟩
   replace H : (if x3_1.length < 2513169434916 then (sleuthref12_CopyNodes.l0 k1 l0 (x3_1 ++ [(⟨(rd_T66 l0 x4_1).f0, (rd_T66 l0 x4_1).f1, y438, (rd_T66 l0 x4_1).f3⟩ : S66)]) (wrap64 (x4_1 + 1))) else (none)) = some r := by first | (rw [hy438]; with_reducible exact H) | (have H2_ := (Option.bind_some _ _).symm.trans H; rw [hy438]; with_reducible exact H2_) | (have H2_ := (Option.bind_some _ _).symm.trans H; with_reducible exact H2_) | with_reducible exact H | (rw [hy438]; exact H) | exact H
   have Ny438 := a_ hy438
   clear hy438
   replace H := ifI_ H; obtain ⟨c5, H⟩ := H
   have LMc5 := a_ c5
   clear c5
   obtain ⟨y441, hy441⟩ : ∃ y_ : List (S66), y_ = (x3_1 ++ [(⟨(rd_T66 l0 x4_1).f0, (rd_T66 l0 x4_1).f1, y438, (rd_T66 l0 x4_1).f3⟩ : S66)]) := ⟨_, rfl⟩
   replace H : (sleuthref12_CopyNodes.l0 k1 l0 y441 (wrap64 (x4_1 + 1))) = some r := by first | (rw [hy441]; with_reducible exact H) | (have H2_ := (Option.bind_some _ _).symm.trans H; rw [hy441]; with_reducible exact H2_) | (have H2_ := (Option.bind_some _ _).symm.trans H; with_reducible exact H2_) | with_reducible exact H | (rw [hy441]; exact H) | exact H
   have Ny441 := a_ hy441
   clear hy441
   have H' := a_ H
   clear H
   have p433 : 0 ≤ (x4_1 : Int) := of_decide_eq_true hA_
   have q433 : x4_1 < (l0.length : Int) := of_decide_eq_true hA_
   obtain ⟨ad433, A433_2, c433_2, e433, hx433_0, hx433_1, hx433_2, hx433_3, hl433_2, hi433_2⟩ := at_T66 HR0.out x4_1 p433 q433
   cases e433
   replace hx433_0 := cl_ HB.out hx433_0
   replace hx433_1 := cl_ HB.out hx433_1
   replace hx433_2 := cl_ HB.out hx433_2
   replace hx433_3 := cl_ HB.out hx433_3
   have HR433_2 := a_ hi433_2
   have HC433_2 := a_ hl433_2
   clear hi433_2 hl433_2
   replace p433 := eq_true p433
   replace q433 := eq_true q433
   go_wp2_with (first | ((with_reducible refine gate_dst (N := 5) rfl ?_); refine boxE_ 5 #[.int .i64 0, .int .i64 0, .slice none 0 0, .string (⟨#[]⟩ : ByteArray)] 66 ?_; intro gb434 hg w6 hbox hb; replace HO_3 := a_ (Kd.S_below (Kd.S_elderB (by (with_reducible repeat (first | apply Kd.S_alloc | apply Kd.S_drewN | apply Kd.S_drew)); exact HO_3.out) gb434 (Nat.le_of_eq hg.symm)) hb); have BK434 := a_ (hbox); have GW434 := a_ ((gE_ hg : w.heap.size ≤ gb434)); have GE434 := a_ ((gE_ hg : w.heap.size ≤ gb434)); replace HB := a_ (below_step hB_ hb); clear hb hbox hg; obtain ⟨hcz7_0, hcz7_1, hcz7_2, hcz7_3, hfz7_0, hfz7_1, hfz7_2, hfz7_3⟩ := bx4_ BK434.out) | ((with_reducible refine gate_dst (N := 16) rfl ?_); refine Kd.R_lit Kd.string _ 9 ?hg (N := 16) ?hd (xs := ([] : List ByteArray)) (inner := []) (ok := fun _ => True) (okp := fun _ => True) ?hr ?hp (fun _ hk => hk) trivial (Below.refl _ _) (Nat.le_refl _) (by simp) ?_; (case hd => rfl); (case hg => rfl); (case hr => first | (go_simp; done) | (go_simp; rfl)); (case hp => exact (Reps.none _ _)); intro v436 w8 ho9 hb hg_ hnew_; clear hg_ hnew_; (first | rw [← Ny435.out] at ho9 | (simp only [Int.reduceToNat] at ho9; rw [← Ny435.out] at ho9)); replace HO_3 := a_ (Kd.S_elder' (by (with_reducible repeat (first | apply Kd.S_alloc | apply Kd.S_drewN | apply Kd.S_drew)); exact (Kd.S_mono (sF_ (sF_ (sF_ (sF_ (Kd.S_mono HO_3.out (fun k_ hk => (⟨hk, hk.2⟩ : _ ∧ k_ ≠ gb434))))))) (fun _ h_ => h_.1))) (Kd.R_base ho9) hb); have HO437 := a_ (Kd.R_lower ho9 (below_size hC_)); replace BK434 := a_ (blk_below (g := gb434) (o := .cells #[.int .i64 ((rd_T66 l0 x4_1).f0), .int .i64 ((rd_T66 l0 x4_1).f1), .slice A433_2 ((rd_T66 l0 x4_1).f2).length c433_2, .string ((rd_T66 l0 x4_1).f3)] 66 (0, 0)) (by (with_reducible repeat (first | refine blk_drewN ?_ _ | refine blk_drew ?_ | refine blk_alloc ?_ _)); exact (bP_ (bP_ (bP_ (bP_ (hK_ BK434.out)))))) hb); replace HB := a_ (below_step hC_ hb); clear hb ho9; obtain ⟨hcz10_0, hcz10_1, hcz10_2, hcz10_3, hfz10_0, hfz10_1, hfz10_2, hfz10_3⟩ := bx4_ BK434.out) | ((with_reducible refine gate_builtin (b := .append) (xs := #[.tmp 16, .tmp 18]) rfl ?_); at_builtin; refine Kd.R_append_rows Kd.string (w0 := w) w.heap.size rfl (.tmp 16) (.tmp 18) 64 9 (.string ⟨#[]⟩) 16 rfl Tryz.underlying64 info9 rfl (by decide) (by omega) v436 y435 ((rd_T66 l0 x4_1).f2) _ _ _ (fun _ => True) (fun _ => False) rfl rfl ?aO ?aR (fun _ _ h => h) (fun _ h => h.elim) ?aF ?aB ?aS ?aL ?_; (case aR => exact cB_ HR433_2.out); (case aB => exact hC_); (case aF => exact (fun _ _ => trivial)); (case aO => exact (hR_ HO437.out)); (case aS => exact (below_size hC_)); (case aL => have := LMc4.out; omega); intro v439 w11 ho hb hg hat; rw [← Ny438.out] at ho; replace HO_3 := a_ (Kd.S_after (ok := (fun k_ => k_ ≠ gb434)) (by (with_reducible repeat (first | apply Kd.S_alloc | apply Kd.S_drewN | apply Kd.S_drew)); exact Kd.S_mono HO_3.out (fun _ hk => ⟨hk.1.2, hk.2⟩)) hg hat); replace BK434 := a_ (blk_grown (hK_ BK434.out) hg (Kd.R_ne HO437.out BK434.out (by decide))); replace HB := a_ (hb); have HO440 := a_ (ho); clear HO437; clear ho hb hg hat; obtain ⟨Ao12, co12, eo12⟩ := Kd.R_slice HO440.out; subst eo12; obtain ⟨hcz13_0, hcz13_1, hcz13_2, hcz13_3, hfz13_0, hfz13_1, hfz13_2, hfz13_3⟩ := bx4_ BK434.out) | ((with_reducible refine gate_store (t := 64) (p := 20) rfl ?_); refine store_event (t := 64) (p := 20) (v := ?vo_w14) (w1 := (w11.setCell ⟨gb434, 2, none⟩ (.slice Ao12 y438.length co12))) ?hg ?ho ?hn ?hr ?_; (case ho => rfl); (case hg => rfl); (case hn => rfl); (case hr => first | (go_simp; done) | (go_simp; rfl)); intro w14 hw; replace HO_3 : Aside0 (Kd.S k66 66 w14 w.heap.size (fun k_ => some k_ ≠ (.slice Ao12 y438.length co12 : Value).ownBlock ∧ k_ ≠ gb434) u3 x3_1) := ⟨(by rw [hw]; exact (by (with_reducible repeat (first | apply Kd.S_alloc | apply Kd.S_drewN | apply Kd.S_drew)); exact Kd.S_mono (sF_ (Kd.S_mono HO_3.out (fun k_ hk => (⟨hk, hk.1⟩ : _ ∧ k_ ≠ gb434)))) (fun _ hk => ⟨hk.1.2, hk.1.1⟩)))⟩; replace HO440 : Aside0 (Kd.R Kd.string 9 w14 w.heap.size (fun _ => True) (.slice Ao12 y438.length co12) y438) := ⟨(by rw [hw]; exact (by (with_reducible repeat (first | apply Kd.R_alloc | apply Kd.R_drewN | apply Kd.R_drew)); exact Kd.R_mono (rF_ (Kd.R_types HO440.out BK434.out (by decide))) (fun _ hk => trivial)))⟩; replace BK434 : Aside0 (w14.heap[gb434]? = some (.cells #[.int .i64 ((rd_T66 l0 x4_1).f0), .int .i64 ((rd_T66 l0 x4_1).f1), .slice Ao12 y438.length co12, .string ((rd_T66 l0 x4_1).f3)] 66 (0, 0))) := ⟨(by rw [hw]; exact (bP_ (hK_ BK434.out)))⟩; replace HB : Aside0 (Below w.heap.size w w14) := ⟨(by rw [hw]; exact hC_)⟩; clear hw; obtain ⟨hcz15_0, hcz15_1, hcz15_2, hcz15_3, hfz15_0, hfz15_1, hfz15_2, hfz15_3⟩ := bx4_ BK434.out) | ((with_reducible refine gate_builtin (b := .append) (xs := #[.tmp 21, .tmp 23]) rfl ?_); at_builtin; refine Kd.S_append k66 (w0 := w) w.heap.size rfl (.tmp 21) (.tmp 23) 22 66 (.agg #[(.int .i64 0), (.int .i64 0), (.slice none 0 0), (.string ⟨#[]⟩)]) 56 rfl Tryz.underlying22 info66 rfl (by decide) (by omega) u3 x3_1 (⟨(rd_T66 l0 x4_1).f0, (rd_T66 l0 x4_1).f1, y438, (rd_T66 l0 x4_1).f3⟩ : S66) [.int .i64 ((rd_T66 l0 x4_1).f0), .int .i64 ((rd_T66 l0 x4_1).f1), .slice Ao12 y438.length co12, .string ((rd_T66 l0 x4_1).f3)] (fun k_ => k_ ≠ gb434) (fun k_ => some k_ = (.slice Ao12 y438.length co12 : Value).ownBlock) rfl rfl ?aP (fun k_ hk_ => ((Kd.R_mono (ok' := fun k_ => ((fun k_ => k_ ≠ gb434)) k_ ∧ some k_ ≠ (u3 : Value).ownBlock) (Kd.R_types (Kd.R_apart' (HO440.out) (Kd.S_typed HO_3.out) (by decide)) BK434.out (by decide)) (fun k_ hk => ⟨hk.2, hk.1.2⟩))).1 k_ hk_.symm) ?aF ?aO ?aB ?aS ?aL ?_; (case aP => exact k66_mkM _ _ _ (⟨(rd_T66 l0 x4_1).f0, (rd_T66 l0 x4_1).f1, y438, (rd_T66 l0 x4_1).f3⟩ : S66) (Kd.R_mono (Kd.R_tight rfl (Kd.R_mono (ok' := fun k_ => ((fun k_ => k_ ≠ gb434)) k_ ∧ some k_ ≠ (u3 : Value).ownBlock) (Kd.R_types (Kd.R_apart' (HO440.out) (Kd.S_typed HO_3.out) (by decide)) BK434.out (by decide)) (fun k_ hk => ⟨hk.2, hk.1.2⟩))) (fun _ h_ => h_))); (case aB => exact hC_); (case aF => exact (fun k_ hk => Kd.freshB (g := gb434) (o := .cells #[.int .i64 ((rd_T66 l0 x4_1).f0), .int .i64 ((rd_T66 l0 x4_1).f1), .slice Ao12 y438.length co12, .string ((rd_T66 l0 x4_1).f3)] 66 (0, 0)) (hK_ BK434.out) k_ hk)); (case aO => exact (by (with_reducible repeat (first | apply Kd.S_alloc | apply Kd.S_drewN | apply Kd.S_drew)); exact Kd.S_mono HO_3.out (fun k_ hk => ⟨hk.2, fun e_ => hk.1 e_⟩))); (case aS => exact (below_size hC_)); (case aL => have := LMc5.out; omega); intro v442 w16 ho hb hg hat; rw [← Ny441.out] at ho; replace BK434 := a_ (blk_grown (hK_ BK434.out) hg (Kd.S_away HO_3.out (fun _ hk => hk.2))); replace HB := a_ (hb); have HO443 := a_ (ho); clear HO_3 HO440; clear ho hb hg hat))
   go_roundg k1
   case measure => have := HK1.out; omega
   case rel => exact ⟨(y441), (wrap64 (x4_1 + 1)), hW_, H', ⟨by have := HK1.out; omega⟩, ⟨by (with_reducible repeat (first | apply Kd.S_alloc | apply Kd.S_drewN | apply Kd.S_drew)); exact Kd.S_mono HO443.out (fun _ hk => trivial)⟩, ⟨hC_⟩⟩
def sleuthref12_NewSession.f (k : Nat) (l0 : List (S66)) (a1 : Int) : Option ((List (S66)) × Int × (List (S53)) × Int) := (sleuthref12_TrailMay.f k l0).bind fun t445 => (if t445 = true then ((sleuthref12_upTo.f a1 0 1).bind fun t446 => (if t446 = true then ((sleuthref12_CopyNodes.f k l0).bind fun t447 => (some (t447, a1, ([] : List (S53)), 0))) else (some (([] : List (S66)), 0, ([] : List (S53)), 2100)))) else (some (([] : List (S66)), 0, ([] : List (S53)), 2100)))
theorem sleuthref12_NewSession.mono : ∀ a0 a1 k, LeO (sleuthref12_NewSession.f k a0 a1) (sleuthref12_NewSession.f (k + 1) a0 a1) := by
 intro a0 a1 k
 unfold sleuthref12_NewSession.f
 repeat' first
  | (with_reducible exact sleuthref12_CopyNodes.mono _ _)
  | (with_reducible exact sleuthref12_TrailMay.mono _ _)
  | (with_reducible exact LeO.refl _)
  | (with_reducible exact LeO.none _)
  | (with_reducible refine LeO.ite ?_ ?_)
  | (with_reducible refine LeO.bind ?_ (fun _ => ?_))
  | exact sleuthref12_CopyNodes.mono _ _
  | exact sleuthref12_TrailMay.mono _ _
  | exact LeO.none _
  | refine LeO.ite ?_ ?_
  | refine LeO.bind ?_ (fun _ => ?_)
theorem sleuthref12_NewSession.calls (k : Nat) (A0 : Option Addr) (c0 : Nat) (l0 : List (S66)) (a1 : Int) (r1 : List (S66)) (r2 : Int) (r3 : List (S53)) (r4 : Int) (w : World) (hr0 : Kd.C k66 w A0 l0.length l0) (hc0 : l0.length ≤ c0) (h : sleuthref12_NewSession.f k l0 a1 = some (r1, r2, r3, r4)) :
 Calls Tryz.prog 17 #[.slice A0 l0.length c0, .int .i64 a1] w fun e w' => ∃ v0_ v2_ : Value, e = .returned (.tuple #[.agg #[v0_, .int .i64 r2, v2_], .int .i64 r4]) ∧ Kd.S k66 66 w' w.heap.size (fun _ => True) v0_ r1 ∧ Kd.R k53 53 w' w.heap.size (fun _ => True) v2_ r3 ∧ Below w.heap.size w w' := by
 have hu25 := Tryz.underlying25
 have HR0 := a_ hr0
 have HC0 := a_ hc0
 clear hr0 hc0
 have HB := a_ (Below.refl w.heap.size w)
 have H := h; unfold sleuthref12_NewSession.f at H
 clear h
 replace H := Option.bind_eq_some_iff.mp H
 obtain ⟨t445, A30, H⟩ := H
 try dsimp only at H
 have A3 := a_ A30
 clear A30
 by_cases c4 : t445 = true
 case neg =>
  replace c4 := Bool.eq_false_iff.mpr c4
  subst c4
  rw [if_neg (show ¬ (false = true) by decide)] at H
  simp only [Option.some.injEq, Prod.mk.injEq] at H
  obtain ⟨rfl, rfl, rfl, rfl⟩ := H
  go_enter Tryz.func17, Tryz.ntmps17
  go_wp2_with (first | ((with_reducible refine gate_dst (N := 4) rfl ?_); refine boxE_ 4 #[.slice none 0 0, .int .i64 0, .slice none 0 0] 25 ?_; intro gb444 hg w16 hbox hb; have BK444 := a_ (hbox); have GW444 := a_ ((gE_ hg : w.heap.size ≤ gb444)); have GE444 := a_ ((gE_ hg : w.heap.size ≤ gb444)); replace HB := a_ (below_step hB_ hb); clear hb hbox hg) | ((with_reducible refine gate_callee (f := 18) rfl ?_); refine goesL_ (some 7) rfl rfl Tryz.func18 (by kernel_rfl) rfl #[.slice A0 l0.length c0] rfl hL_ ?_; (with_reducible refine (sleuthref12_TrailMay.calls k _ _ l0 false _ ?side1 ?side2 A3.out).mono ?_); (case side1 => exact cB_ HR0.out); (case side2 => exact HC0.out); rintro e w17 ⟨rfl, hb⟩; refine ⟨_, rfl, ?_⟩; replace BK444 := a_ (bB_ BK444.out hb); replace HB := a_ (below_step hC_ hb); (try clear hb); (try clear hb2); (try clear hk); (try clear hi); obtain ⟨hcz18_0, hcz18_1, hcz18_2, hfz18_0, hfz18_1, hfz18_2⟩ := bx3_ BK444.out))
  refine bodyPost_ret (results_ct rfl _ _ gb444 25 #[.slice none 0 0, .int .i64 0, .slice none 0 0] (0, 0) _ rfl (bP_ (bP_ (bP_ (hK_ BK444.out)))) Tryz.underlying25 rfl (by kernel_rfl)) rfl ?_
  exact ⟨_, _, hV_, by first | exact Kd.S_nil _ _ _ _ _ | exact Kd.N_nil _ _ _ _ _ | exact Kd.V_nil _ _ _ _ _ | exact Kd.Q_nil _ _ _ _ _ | exact Kd.R_nil _ _ _ _ _, by first | exact Kd.R_nil _ _ _ _ _ | exact Kd.N_nil _ _ _ _ _ | exact Kd.V_nil _ _ _ _ _ | exact Kd.Q_nil _ _ _ _ _ | exact Kd.S_nil _ _ _ _ _, hC_⟩

 subst c4
 rw [if_pos rfl] at H
 replace H := Option.bind_eq_some_iff.mp H
 obtain ⟨t446, A50, H⟩ := H
 try dsimp only at H
 have A5 := a_ A50
 clear A50
 by_cases c6 : t446 = true
 case neg =>
  replace c6 := Bool.eq_false_iff.mpr c6
  subst c6
  rw [if_neg (show ¬ (false = true) by decide)] at H
  simp only [Option.some.injEq, Prod.mk.injEq] at H
  obtain ⟨rfl, rfl, rfl, rfl⟩ := H
  go_enter Tryz.func17, Tryz.ntmps17
  go_wp2_with (first | ((with_reducible refine gate_dst (N := 4) rfl ?_); refine boxE_ 4 #[.slice none 0 0, .int .i64 0, .slice none 0 0] 25 ?_; intro gb444 hg w13 hbox hb; have BK444 := a_ (hbox); have GW444 := a_ ((gE_ hg : w.heap.size ≤ gb444)); have GE444 := a_ ((gE_ hg : w.heap.size ≤ gb444)); replace HB := a_ (below_step hB_ hb); clear hb hbox hg) | ((with_reducible refine gate_callee (f := 18) rfl ?_); refine goesL_ _ rfl rfl Tryz.func18 (by kernel_rfl) rfl #[.slice A0 l0.length c0] rfl hL_ ?_; (with_reducible refine (sleuthref12_TrailMay.calls k _ _ l0 true _ ?side1 ?side2 A3.out).mono ?_); (case side1 => exact cB_ HR0.out); (case side2 => exact HC0.out); rintro e w14 ⟨rfl, hb⟩; refine ⟨_, rfl, ?_⟩; replace BK444 := a_ (bB_ BK444.out hb); replace HB := a_ (below_step hC_ hb); (try clear hb); (try clear hb2); (try clear hk); (try clear hi)) | (go_at_call 32; (with_reducible refine (sleuthref12_upTo.calls a1 0 1 false _ A5.out).mono ?_); rintro e w' ⟨rfl, ⟨nd, rfl⟩⟩; (try (rw [drewN_self w14]; generalize hq_ : World.drewN w14 _ = w14; replace BK444 : Aside0 (w14.heap[gb444]? = some (.cells #[.slice none 0 0, .int .i64 0, .slice none 0 0] 25 (0, 0))) := ⟨by rw [← hq_]; exact (hK_ BK444.out)⟩; replace HB : Aside0 (Below w.heap.size w w14) := ⟨by rw [← hq_]; exact hC_⟩; clear hq_; (try have hcu0_0 := bc0_ BK444.out); (try have hfu0_0 := blk_frozen BK444.out 0); (try have hcu0_1 := bc1_ BK444.out); (try have hfu0_1 := blk_frozen BK444.out 1); (try have hcu0_2 := bc2_ BK444.out); (try have hfu0_2 := blk_frozen BK444.out 2))); obtain ⟨hcz15_0, hcz15_1, hcz15_2, hfz15_0, hfz15_1, hfz15_2⟩ := bx3_ BK444.out))
  refine bodyPost_ret (results_ct rfl _ _ gb444 25 #[.slice none 0 0, .int .i64 0, .slice none 0 0] (0, 0) _ rfl (bP_ (bP_ (bP_ (hK_ BK444.out)))) Tryz.underlying25 rfl (by kernel_rfl)) rfl ?_
  exact ⟨_, _, hV_, by first | exact Kd.S_nil _ _ _ _ _ | exact Kd.N_nil _ _ _ _ _ | exact Kd.V_nil _ _ _ _ _ | exact Kd.Q_nil _ _ _ _ _ | exact Kd.R_nil _ _ _ _ _, by first | exact Kd.R_nil _ _ _ _ _ | exact Kd.N_nil _ _ _ _ _ | exact Kd.V_nil _ _ _ _ _ | exact Kd.Q_nil _ _ _ _ _ | exact Kd.S_nil _ _ _ _ _, hC_⟩
 subst c6
 rw [if_pos rfl] at H
 replace H := Option.bind_eq_some_iff.mp H
 obtain ⟨t447, A70, H⟩ := H
 try dsimp only at H
 have A7 := a_ A70
 clear A70
 simp only [Option.some.injEq, Prod.mk.injEq] at H
 obtain ⟨rfl, rfl, rfl, rfl⟩ := H
 go_enter Tryz.func17, Tryz.ntmps17
 go_wp2_with (first | ((with_reducible refine gate_dst (N := 4) rfl ?_); refine boxE_ 4 #[.slice none 0 0, .int .i64 0, .slice none 0 0] 25 ?_; intro gb444 hg w8 hbox hb; have BK444 := a_ (hbox); have GW444 := a_ ((gE_ hg : w.heap.size ≤ gb444)); have GE444 := a_ ((gE_ hg : w.heap.size ≤ gb444)); replace HB := a_ (below_step hB_ hb); clear hb hbox hg) | ((with_reducible refine gate_callee (f := 18) rfl ?_); refine goesL_ _ rfl rfl Tryz.func18 (by kernel_rfl) rfl #[.slice A0 l0.length c0] rfl hL_ ?_; (with_reducible refine (sleuthref12_TrailMay.calls k _ _ l0 true _ ?side1 ?side2 A3.out).mono ?_); (case side1 => exact cB_ HR0.out); (case side2 => exact HC0.out); rintro e w9 ⟨rfl, hb⟩; refine ⟨_, rfl, ?_⟩; replace BK444 := a_ (bB_ BK444.out hb); replace HB := a_ (below_step hC_ hb); (try clear hb); (try clear hb2); (try clear hk); (try clear hi)) | (go_at_call 32; (with_reducible refine (sleuthref12_upTo.calls a1 0 1 true _ A5.out).mono ?_); rintro e w' ⟨rfl, ⟨nd, rfl⟩⟩; (try (rw [drewN_self w9]; generalize hq_ : World.drewN w9 _ = w9; replace BK444 : Aside0 (w9.heap[gb444]? = some (.cells #[.slice none 0 0, .int .i64 0, .slice none 0 0] 25 (0, 0))) := ⟨by rw [← hq_]; exact (hK_ BK444.out)⟩; replace HB : Aside0 (Below w.heap.size w w9) := ⟨by rw [← hq_]; exact hC_⟩; clear hq_; (try have hcu0_0 := bc0_ BK444.out); (try have hfu0_0 := blk_frozen BK444.out 0); (try have hcu0_1 := bc1_ BK444.out); (try have hfu0_1 := blk_frozen BK444.out 1); (try have hcu0_2 := bc2_ BK444.out); (try have hfu0_2 := blk_frozen BK444.out 2)))) | ((with_reducible refine gate_callee (f := 34) rfl ?_); refine goesL_ (some 16) rfl rfl Tryz.func34 (by kernel_rfl) rfl #[.slice A0 l0.length c0] rfl hL_ ?_; (with_reducible refine (sleuthref12_CopyNodes.calls k _ _ l0 t447 _ ?side1 ?side2 A7.out).mono ?_); (case side1 => exact cB_ HR0.out); (case side2 => exact HC0.out); rintro e w10 ⟨v448, rfl, ho0, hb⟩; refine ⟨_, rfl, ?_⟩; have HO449 := a_ (Kd.S_lower ho0 (below_size hC_)); replace BK444 := a_ (bB_ BK444.out hb); replace HB := a_ (below_step hC_ hb); (try clear hb); (try clear hb2); (try clear hk); (try clear hi); (try clear ho0); obtain ⟨Ao11, co11, eo11⟩ := Kd.S_slice HO449.out; subst eo11; obtain ⟨hcz12_0, hcz12_1, hcz12_2, hfz12_0, hfz12_1, hfz12_2⟩ := bx3_ BK444.out))
 refine bodyPost_ret (results_ct rfl _ _ gb444 25 #[.slice Ao11 t447.length co11, .int .i64 a1, .slice none 0 0] (0, 0) _ rfl (bP_ (bP_ (bP_ (hK_ BK444.out)))) Tryz.underlying25 rfl (by kernel_rfl)) rfl ?_
 exact ⟨_, _, hV_, by (with_reducible repeat (first | apply Kd.S_alloc | apply Kd.S_drewN | apply Kd.S_drew)); exact Kd.S_mono (sF_ (sF_ (sF_ (Kd.S_types HO449.out BK444.out (by decide))))) (fun _ hk => trivial), by first | exact Kd.R_nil _ _ _ _ _ | exact Kd.N_nil _ _ _ _ _ | exact Kd.V_nil _ _ _ _ _ | exact Kd.Q_nil _ _ _ _ _ | exact Kd.S_nil _ _ _ _ _, hC_⟩
end Go.Proofs.YtbnljapgnfmmoaaGreatDoor.G
end
section
/- What the laws AnswerEnds and AnswerRow share: a mark out of any number, the document's new session. -/
namespace Go.Proofs.YtbnljapgnfmmoaaGreatDoor.G
open Go.RowKit Go.Proofs.YtbnljapgnfmmoaaGreatDoorW.PrintWords Go.Proofs.YtbnljapgnfmmoaaGreatDoorW.PrintLast Go.Proofs.YtbnljapgnfmmoaaGreatDoorW.PrintMore
set_option linter.unusedVariables false
set_option linter.unusedSimpArgs false
theorem pick3e (r : Int) : ∃ b : Int, markB b = true ∧ wrap64 (1 + (wrap64 (Int.tmod (IntKind.u64.wrap r) 3))) = b := by
  obtain ⟨_, b, hb, hbe⟩ := umod r 3 (by decide) (by decide)
  have e : wrap64 (Int.tmod (IntKind.u64.wrap r) 3) = (b : Int) := hbe
  refine ⟨1 + (b : Int), ?_, ?_⟩
  · unfold markB
    rw [decide_eq_true (show 1 ≤ 1 + (b : Int) by clear e hbe; omega), decide_eq_true (show 1 + (b : Int) ≤ 3 by clear e hbe; omega)]; rfl
  · rw [e]
    clear e hbe
    exact w64 (by omega) (by omega)
theorem refCopy_l0 (ns : List Nd) (hok : okN ns) : ∀ (n i : Nat), i + n = ns.length → Ev (fun k => sleuthref12_CopyNodes.l0 k ns (ns.take i) (i : Int)) ns := by
  intro n
  induction n with
  | zero =>
    intro i hi
    refine Ev.step (f := fun _ => some ns) (fun k => ?_) (Ev.now _)
    simp only [sleuthref12_CopyNodes.l0]
    rw [if_neg (by omega), List.take_of_length_le (by omega)]
  | succ n ih =>
    intro i hi
    have hlt : i < ns.length := by omega
    have hl := hok.1
    have hw : wrap64 ((i : Int) + 1) = ((i + 1 : Nat) : Int) := by rw [w64 (by omega) (by omega)]; omega
    refine Ev.step (f := fun k => sleuthref12_CopyNodes.l0 k ns (ns.take (i + 1)) ((i + 1 : Nat) : Int)) (fun k => ?_) (ih (i + 1) (by omega))
    have hat := hok.at (i : Int)
    simp only [sleuthref12_CopyNodes.l0, Option.bind_some, List.nil_append]
    rw [if_pos (by omega), if_pos (by omega), if_pos (show ([] : List ByteArray).length + (rn ns (i : Int)).f2.length < 8796093022208 by rw [List.length_nil]; omega), if_pos (by rw [List.length_take]; omega), hw]
    have : (ns.take i ++ [(⟨(rn ns (i : Int)).f0, (rn ns (i : Int)).f1, (rn ns (i : Int)).f2, (rn ns (i : Int)).f3⟩ : Nd)]) = ns.take (i + 1) := by
      rw [List.take_succ_eq_append_getElem hlt, rn_eq ns i hlt]
    rw [this]
theorem refCopy_ev (ns : List Nd) (hok : okN ns) : Ev (fun k => sleuthref12_CopyNodes.f k ns) ns := refCopy_l0 ns hok ns.length 0 (by omega)
theorem refNew_no (ns : List Nd) (hok : okN ns) (d : Int) (hm : mayT ns = false) : Ev (fun k => sleuthref12_NewSession.f k ns d) ([], 0, [], 2100) := by
  unfold sleuthref12_NewSession.f
  have ht := refTrail_ev ns hok
  rw [hm] at ht
  refine Ev.bind ht ?_
  simp only [if_neg Bool.false_ne_true]
  exact Ev.now _
theorem refNew_yes (ns : List Nd) (hok : okN ns) (d : Int) (hm : mayT ns = true) (hw : wayB d = true) : Ev (fun k => sleuthref12_NewSession.f k ns d) (ns, d, [], 0) := by
  unfold sleuthref12_NewSession.f
  have ht := refTrail_ev ns hok
  rw [hm] at ht
  refine Ev.bind ht ?_
  simp only [if_pos, wayR_eq, Option.bind_some, hw]
  exact Ev.bind (refCopy_ev ns hok) (Ev.now _)
theorem sess_new {ns : List Nd} {d : Int} (hm : mayT ns = true) (hw : wayB d = true) : sessS ns d [] = true := by
  unfold sessS
  rw [hm, hw, Bool.and_self, if_pos rfl]
  rfl
theorem way1 (a : Int) : ∃ d : Nat, Go.bits .and .i64 a 1 = (d : Int) ∧ wayB (d : Int) = true := by
  obtain ⟨d, hd0, hd⟩ := bits_nat a 1 (by decide)
  refine ⟨d, hd, ?_⟩
  unfold wayB
  rw [Bool.or_eq_true, beq_iff_eq, beq_iff_eq]
  omega
end Go.Proofs.YtbnljapgnfmmoaaGreatDoor.G
end
