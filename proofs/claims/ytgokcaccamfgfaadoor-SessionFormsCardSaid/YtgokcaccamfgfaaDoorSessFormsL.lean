/- The law SessionForms of package session, as a plain statement about what the program computes. -/
import Derived.Test.YtgokcaccamfgfaaDoorU14
import Derived.Test.YtgokcaccamfgfaaDoorG49
namespace Go.Proofs.YtgokcaccamfgfaaDoor.G
open Go.RowKit Go.Proofs.YtgokcaccamfgfaaDoorW.PrintWords Go.Proofs.YtgokcaccamfgfaaDoorW.PrintLast Go.Proofs.YtgokcaccamfgfaaDoorW.PrintMore
set_option linter.unusedVariables false
set_option linter.unusedSimpArgs false
theorem forms_end (a0 : Int) (ns : List Nd) (hok : okN ns) (w : Int) (zs : List An) (hz : zs.length ≤ 9223372036854775806) (hS : sessS ns w zs = false) (h4 : (newF ns w).2.2.2 = if Int.tmod (IntKind.u64.wrap a0) 10 < 4 then 2100 else 0) : Ev (fun k => sleuthlaw21_SessionForms.j0 k a0 true ns w zs) true := by
  refine Ev.step (f := fun k => (session_New.f k ns w).bind fun bt545 => (if true = true then ((session_May.f k ns w zs).bind fun t554 => (if t554 = true then (none) else ((sleuthlaw0_Num.f bt545.2.2.2).bind fun t555 => (if ((t555 == 2100) == (decide ((Int.tmod (IntKind.u64.wrap a0) 10) < 4))) = true then (if (Int.tmod (IntKind.u64.wrap a0) 10) < 4 then (some true) else (some (t555 == 0))) else (none))))) else (none))) (fun k => by rw [sleuthlaw21_SessionForms.j0]) ?_
  refine Ev.bind (new_ev ns hok w) ?_
  simp only [if_pos]
  refine Ev.bind (sessMay_ev ns w zs hz) ?_
  rw [hS]
  simp only [if_neg Bool.false_ne_true, sleuthlaw0_Num.f, Option.bind_some]
  rw [h4]
  by_cases c : Int.tmod (IntKind.u64.wrap a0) 10 < 4
  · simp only [if_pos c, decide_eq_true c]; exact Ev.now _
  · simp only [if_neg c, decide_eq_false c]; exact Ev.now _
theorem new_bad {ns : List Nd} {w : Int} (h : (mayT ns && wayB w) = false) : (newF ns w).2.2.2 = 2100 := by
  unfold newF
  rw [h, if_neg Bool.false_ne_true]
theorem sess_bad {ns : List Nd} {w : Int} (zs : List An) (h : (mayT ns && wayB w) = false) : sessS ns w zs = false := by
  unfold sessS
  rw [h, if_neg Bool.false_ne_true]
theorem new_some : (newF sessSome 0).2.2.2 = 0 := by kernel_rfl
theorem sess_some (zs : List An) : sessS sessSome 0 zs = goS sessSome 0 zs [0, 0, 0, 0, 0] := by
  unfold sessS
  rw [show (mayT sessSome && wayB 0) = true by kernel_rfl, if_pos rfl]; rfl
theorem ask0 : askW 0 sessSome [0, 0, 0, 0, 0] = (0, 0) := by kernel_rfl
theorem ask1 : askW 0 sessSome [2, 0, 0, 0, 0] = (0, 1) := by kernel_rfl
theorem ask2 : askW 0 sessSome [2, 1, 0, 0, 0] = (0, 2) := by kernel_rfl
theorem ask3 : askW 0 sessSome [2, 1, 1, 0, 0] = (1, 0) := by kernel_rfl
theorem askR : askW 0 sessSome [1, 0, 0, 0, 0] = (2, 0) := by kernel_rfl
theorem two_on (t : List An) : sessS sessSome 0 (⟨0, 2⟩ :: ⟨1, 1⟩ :: t) = goS sessSome 0 t [2, 1, 0, 0, 0] := by
  rw [sess_some, goS, ask0, if_neg (by decide), if_pos (by decide)]
  show goS sessSome 0 (⟨1, 1⟩ :: t) [2, 0, 0, 0, 0] = _
  rw [goS, ask1, if_neg (by decide), if_pos (by decide)]; rfl
theorem third_bad (x v : Int) (h : x ≠ 2 ∨ markB v = false) : sessS sessSome 0 [⟨0, 2⟩, ⟨1, 1⟩, ⟨x, v⟩] = false := by
  rw [two_on, goS, ask2]
  by_cases c : (!((0, 2) : Int × Int).1 == 0 || !((0, 2) : Int × Int).2 == (⟨x, v⟩ : An).f0) = true
  · rw [if_pos c]
  · rw [if_neg c]
    rcases h with h | h
    · exfalso
      apply c
      rw [Bool.or_eq_true]
      exact .inr (by show (!((2 : Int) == x)) = true; rw [beq_eq_false_iff_ne.2 (Ne.symm h)]; rfl)
    · rw [if_neg (by rw [show markB (⟨x, v⟩ : An).f1 = markB v from rfl, h]; exact Bool.false_ne_true)]
theorem fourth_bad (x : Int) : sessS sessSome 0 [⟨0, 2⟩, ⟨1, 1⟩, ⟨2, 1⟩, ⟨x, 1⟩] = false := by
  rw [two_on, goS, ask2, if_neg (by decide), if_pos (by decide)]
  show goS sessSome 0 [⟨x, 1⟩] [2, 1, 1, 0, 0] = _
  rw [goS, ask3, if_pos (by rfl)]
theorem three_ok : sessS sessSome 0 [⟨0, 2⟩, ⟨1, 1⟩, ⟨2, 1⟩] = true := by kernel_rfl
theorem sessForms_pure (a0 a1 : Int) (h0 : (Lit.int .i64 a0).wf = true) (h1 : (Lit.int .i64 a1).wf = true) : ∃ k, sleuthlaw21_SessionForms.f k a0 a1 = some true := by
  refine Ev.rounds (g := fun k => sleuthlaw21_SessionForms.f k a0 a1) ?_
  unfold sleuthlaw21_SessionForms.f
  refine Ev.bind sessAwake_ev ?_
  simp only [if_pos, sessSome_eq, Option.bind_some]
  refine Ev.bind (sessMay_ev sessSome 0 [⟨0, 2⟩, ⟨1, 1⟩, ⟨2, 1⟩] (by decide)) ?_
  rw [three_ok]
  obtain ⟨d, hd0, hd⟩ := bits_nat a1 1023 (by decide)
  have hd' : Go.bits .and .i64 a1 1023 = (d : Int) := hd
  have w1 : wrap64 (1 + (d : Int)) = 1 + (d : Int) := w64 (by omega) (by omega)
  have w2 : wrap64 (-(1 + (d : Int))) = -(1 + (d : Int)) := w64 (by omega) (by omega)
  have w3 : wrap64 (1 + (1 + (d : Int))) = 1 + (1 + (d : Int)) := w64 (by omega) (by omega)
  have w4 : wrap64 (2 + (1 + (d : Int))) = 2 + (1 + (d : Int)) := w64 (by omega) (by omega)
  have w5 : wrap64 (1 - (1 + (d : Int))) = 1 - (1 + (d : Int)) := w64 (by omega) (by omega)
  have w6 : wrap64 (3 + (1 + (d : Int))) = 3 + (1 + (d : Int)) := w64 (by omega) (by omega)
  have fe := fun ns hok w zs hz hS h4 => forms_end a0 ns hok w zs hz hS h4
  simp only [hd', w1, w2, w3, w4, w5, w6]
  clear w1 w2 w3 w4 w5 w6
  generalize hq : Int.tmod (IntKind.u64.wrap a0) 10 = q at fe ⊢
  by_cases c0 : q = 0
  · simp only [if_pos c0]
    exact fe [] sessNil_ok 0 _ (by decide) (sess_bad _ rfl) (by rw [new_bad rfl, if_pos (by omega)])
  simp only [if_neg c0]
  by_cases c1 : q = 1
  · have g : (4 : Int) < (sessSome.length : Int) := by decide
    simp only [if_pos c1, if_pos g]
    have hb : (mayT (sessSome.set (4 : Int).toNat (⟨(rn sessSome 4).f0, (rn sessSome 4).f1, (rn sessSome 4).f2, (⟨#[33, 33]⟩ : ByteArray)⟩ : Nd)) && wayB 0) = false := by kernel_rfl
    exact fe _ ⟨by decide, by
      intro x hx
      have h : ((sessSome.set (4 : Int).toNat (⟨(rn sessSome 4).f0, (rn sessSome 4).f1, (rn sessSome 4).f2, (⟨#[33, 33]⟩ : ByteArray)⟩ : Nd)).all fun x => decide (x.f2.length ≤ 8796093021952)) = true := by kernel_rfl
      exact of_decide_eq_true (List.all_eq_true.1 h x hx)⟩ 0 _ (by decide) (sess_bad _ hb) (by rw [new_bad hb, if_pos (by omega)])
  simp only [if_neg c1]
  by_cases c2 : q = 2
  · have hb : (mayT sessSome && wayB (-(1 + (d : Int)))) = false := by
      rw [sessSome_may, Bool.true_and]
      unfold wayB
      rw [beq_eq_false_iff_ne.2 (by omega), beq_eq_false_iff_ne.2 (by omega)]; rfl
    simp only [if_pos c2]
    exact fe _ sessSome_ok _ _ (by decide) (sess_bad _ hb) (by rw [new_bad hb, if_pos (by omega)])
  simp only [if_neg c2]
  by_cases c3 : q = 3
  · have hb : (mayT sessSome && wayB (1 + (1 + (d : Int)))) = false := by
      rw [sessSome_may, Bool.true_and]
      unfold wayB
      rw [beq_eq_false_iff_ne.2 (by omega), beq_eq_false_iff_ne.2 (by omega)]; rfl
    simp only [if_pos c3]
    exact fe _ sessSome_ok _ _ (by decide) (sess_bad _ hb) (by rw [new_bad hb, if_pos (by omega)])
  simp only [if_neg c3]
  have hq0 : 0 ≤ q := by
    have h2 : 0 ≤ IntKind.u64.wrap a0 := by
      show 0 ≤ a0 % 18446744073709551616
      omega
    rw [← hq]
    exact Int.tmod_nonneg 10 h2
  have hlt : ¬ q < 4 := by omega
  have h40 : (newF sessSome 0).2.2.2 = if q < 4 then 2100 else 0 := by rw [if_neg hlt]; exact new_some
  have l3 : (2 : Int) < (([⟨0, 2⟩, ⟨1, 1⟩, ⟨2, 1⟩] : List An).length : Int) := by decide
  by_cases c4 : q = 4
  · simp only [if_pos c4, if_pos l3]
    exact fe _ sessSome_ok 0 _ (by show 3 ≤ 9223372036854775806; decide) (third_bad (2 + (1 + (d : Int))) 1 (.inl (by omega))) h40
  simp only [if_neg c4]
  by_cases c5 : q = 5
  · simp only [if_pos c5, if_pos l3]
    exact fe _ sessSome_ok 0 _ (by show 3 ≤ 9223372036854775806; decide) (third_bad 2 (1 - (1 + (d : Int))) (.inr (by unfold markB; rw [decide_eq_false (by omega)]; rfl))) h40
  simp only [if_neg c5]
  by_cases c6 : q = 6
  · simp only [if_pos c6, if_pos l3]
    exact fe _ sessSome_ok 0 _ (by show 3 ≤ 9223372036854775806; decide) (third_bad 2 (3 + (1 + (d : Int))) (.inr (by unfold markB; rw [decide_eq_false (show ¬ 3 + (1 + (d : Int)) ≤ 3 by omega), Bool.and_false]))) h40
  simp only [if_neg c6]
  by_cases c7 : q = 7
  · have g : ([⟨0, 2⟩, ⟨1, 1⟩, ⟨2, 1⟩] : List An).length < 8796093022208 := by decide
    simp only [if_pos c7, if_pos g]
    exact fe _ sessSome_ok 0 _ (by show 4 ≤ 9223372036854775806; decide) (fourth_bad (Go.bits .and .i64 a1 3)) h40
  simp only [if_neg c7]
  by_cases c8 : q = 8
  · have g : (0 : Int) < (([⟨0, 2⟩, ⟨1, 1⟩, ⟨2, 1⟩] : List An).length : Int) := by decide
    simp only [if_pos c8, if_pos g]
    exact fe _ sessSome_ok 0 _ (by decide) (by kernel_rfl) h40
  · have g : (1 : Int) ≤ (([⟨0, 2⟩, ⟨1, 1⟩, ⟨2, 1⟩] : List An).length : Int) := by decide
    simp only [if_neg c8, if_pos g]
    exact fe _ sessSome_ok 0 _ (by decide) (by kernel_rfl) h40
end Go.Proofs.YtgokcaccamfgfaaDoor.G
