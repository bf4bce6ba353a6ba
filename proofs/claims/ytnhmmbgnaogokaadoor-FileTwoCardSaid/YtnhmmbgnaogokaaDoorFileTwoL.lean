/- The law FileTwo of package file, as a plain statement about what the program computes. -/
import Derived.Test.YtnhmmbgnaogokaaDoorU10
import Derived.Test.YtnhmmbgnaogokaaDoorU9
import Derived.Test.YtnhmmbgnaogokaaDoorG33
namespace Go.Proofs.YtnhmmbgnaogokaaDoor.G
open Go.RowKit Go.Proofs.YtnhmmbgnaogokaaDoorW.PrintWords Go.Proofs.YtnhmmbgnaogokaaDoorW.PrintLast Go.Proofs.YtnhmmbgnaogokaaDoorW.PrintMore
set_option linter.unusedVariables false
set_option linter.unusedSimpArgs false
theorem nextS_zero {x : Nd} (h : nextS x 0 = true) : x.f1 = -1 := by
  unfold nextS at h
  simp only [Bool.and_eq_true, Bool.or_eq_true, decide_eq_true_iff] at h
  omega
theorem nextS_later {x : Nd} {i : Int} (hi : 0 < i) (h : nextS x i = true) : 0 ≤ x.f1 := by
  unfold nextS at h
  simp only [Bool.and_eq_true, Bool.or_eq_true, decide_eq_true_iff] at h
  omega
theorem frec_inj {x y : Nd} (hx : recS x = true) (hy : recS y = true) {r1 r2 : ByteArray} (h : frec x ++ r1 = frec y ++ r2) : x = y := by
  have e : recOf x = recOf y := by
    have g1 := get_frame ⟨#[]⟩ (recOf x) r1 (recOf_size hx)
    have g2 := get_frame ⟨#[]⟩ (recOf y) r2 (recOf_size hy)
    rw [nil_app] at g1 g2
    have h' : frameOf (recOf x) ++ r1 = frameOf (recOf y) ++ r2 := h
    rw [h', g2] at g1
    exact (Prod.mk.inj g1).1.symm
  have e1 := getR_of hx e
  have e2 := getR_of hy rfl
  rw [e1] at e2
  exact (Prod.mk.inj e2).1
theorem load_two {ns : List Nd} (hv : validS ns) (h0 : 0 < ns.length) (hs : (fileB ns ++ fileB ns).size ≤ 65536) : loadT (fileB ns ++ fileB ns) = (ns, ((fileB ns).size : Int)) := by
  unfold loadT
  rw [cutT_le hs]
  refine loadS_eq hv rfl ?_
  cases hc : stepF (fileB ns ++ fileB ns) ns.length ((fileB ns).size : Int) with
  | none => rfl
  | some p =>
    obtain ⟨x, to_⟩ := p
    obtain ⟨h1, _, r', h3⟩ := stepF_of rfl hc
    cases ns with
    | nil => exact absurd h0 (by decide)
    | cons y ys =>
      have hy := hv 0 h0
      rw [fileB] at h3
      have e := frec_inj (recS_of_next hy) (recS_of_next h1) h3
      have a := nextS_zero hy
      have b := nextS_later (by rw [List.length_cons]; omega) h1
      rw [← e] at b
      simp only [List.getElem_cons_zero] at a b
      omega
theorem fileTwo_pure (l0 : List Nd) (h : fineN l0) : ∃ k, sleuthlaw17_FileTwo.f k l0 = some true := by
  refine Ev.rounds (g := fun k => sleuthlaw17_FileTwo.f k l0) ?_
  unfold sleuthlaw17_FileTwo.f
  refine Ev.bind awake17_ev ?_
  simp only [if_pos]
  refine Ev.bind (text_ev l0) ?_
  rcases textS_cases l0 with ⟨c1, c2, c3⟩ | c
  · rw [c3]
    simp only [sleuthlaw0_Num.f, Option.bind_some, if_pos]
    have hw : wrap64 (2 * ((fileB l0).size : Int)) = 2 * ((fileB l0).size : Int) := w64 (by omega) (by omega)
    rw [hw]
    by_cases c4 : 2 * ((fileB l0).size : Int) > 65536
    · rw [decide_eq_true c4]
      refine Ev.step (f := fun _ => some true) (fun k => ?_) (Ev.now _)
      simp only [sleuthlaw17_FileTwo.j0, if_pos, sleuthlaw0_Num.f, Option.bind_some]
    · rw [decide_eq_false c4]
      obtain ⟨hp, hv⟩ := (mayT_iff l0).1 c1
      have hz : (fileB l0 ++ fileB l0).size ≤ 65536 := by rw [ByteArray.size_append]; omega
      have c5 : (fileB l0).size + (fileB l0).size ≤ 9223372036854775807 := by omega
      have e1 := load_ev (fileB l0 ++ fileB l0)
      rw [load_two hv hp hz] at e1
      have e2 := refTrail_ev l0 (valid_ok hv)
      rw [c1] at e2
      refine Ev.step (f := fun k => (file_Load.f k (fileB l0 ++ fileB l0)).bind fun bt354 => ((sleuthlaw0_SameNodes.f k bt354.1 l0).bind fun t358 => (if t358 = true then (if bt354.2 = ((fileB l0).size : Int) then ((sleuthref12_TrailMay.f k l0).bind fun t359 => (some t359)) else (none)) else (none)))) (fun k => ?_) ?_
      · rw [sleuthlaw17_FileTwo.j0, if_neg Bool.false_ne_true, if_pos c5]
      · refine Ev.bind e1 (Ev.bind (sameNodes_ev l0 (valid_ok hv)) ?_)
        simp only [if_pos]
        exact Ev.bind e2 (Ev.now _)
  · rw [c]
    have g : ¬ (1700 : Int) = 0 := by decide
    simp only [sleuthlaw0_Num.f, Option.bind_some, if_neg g]
    refine Ev.step (f := fun _ => some true) (fun k => ?_) (Ev.now _)
    simp only [sleuthlaw17_FileTwo.j0, if_pos, sleuthlaw0_Num.f, Option.bind_some, if_neg g, toList_eq, BEq.rfl]
end Go.Proofs.YtnhmmbgnaogokaaDoor.G
