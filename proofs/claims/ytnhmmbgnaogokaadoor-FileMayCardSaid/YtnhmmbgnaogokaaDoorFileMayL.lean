/- The law FileMay of package file, as a plain statement about what the program computes. -/
import Derived.Test.YtnhmmbgnaogokaaDoorU10
import Derived.Test.YtnhmmbgnaogokaaDoorU9
import Derived.Test.YtnhmmbgnaogokaaDoorG31
namespace Go.Proofs.YtnhmmbgnaogokaaDoor.G
open Go.RowKit Go.Proofs.YtnhmmbgnaogokaaDoorW.PrintWords Go.Proofs.YtnhmmbgnaogokaaDoorW.PrintLast Go.Proofs.YtnhmmbgnaogokaaDoorW.PrintMore
set_option linter.unusedVariables false
set_option linter.unusedSimpArgs false
theorem fileMay_pure (a0 : ByteArray) (h : a0.size ≤ 140737488351232) : ∃ k, sleuthlaw17_FileMay.f k a0 = some true := by
  refine Ev.rounds (g := fun k => sleuthlaw17_FileMay.f k a0) ?_
  unfold sleuthlaw17_FileMay.f
  refine Ev.bind awake17_ev ?_
  simp only [if_pos]
  refine Ev.bind (load_ev a0) ?_
  have hL := loadS_spec (cutT a0)
  obtain ⟨hv, hto, ⟨r, hr⟩⟩ := And.intro hL.1 (And.intro hL.2.1 hL.2.2.1)
  clear hL
  obtain ⟨r2, hr2⟩ := cut_pre a0
  have hcz := cutT_size a0
  have hl : loadT a0 = loadS (cutT a0) := rfl
  rw [hl]
  clear hl
  generalize loadS (cutT a0) = L at hv hto hr ⊢
  obtain ⟨xs, to_⟩ := L
  simp only at hv hto hr ⊢
  subst hto
  have hsz : (fileB xs).size ≤ (cutT a0).size := by rw [hr, ByteArray.size_append]; omega
  by_cases c : (xs.length : Int) = 0
  · have hx : xs = [] := List.length_eq_zero_iff.1 (by omega)
    subst hx
    simp only [List.length_nil, Int.natCast_zero, if_pos]
    exact Ev.now _
  · simp only [if_neg c]
    have hm : mayT xs = true := (mayT_iff xs).2 ⟨by omega, hv⟩
    have e1 := text_ev xs
    rw [textS_ok hm (by omega)] at e1
    have e2 := refTrail_ev xs (valid_ok hv)
    rw [hm] at e2
    refine Ev.bind e1 (Ev.bind e2 ?_)
    have c1 : ((fileB xs).size : Int) ≤ (a0.size : Int) := by omega
    have c2 : 0 ≤ ((fileB xs).size : Int) := by omega
    have he : a0.extract 0 (fileB xs).size = fileB xs := by
      have e : a0 = fileB xs ++ (r ++ r2) := by rw [← app_assoc, ← hr]; exact hr2
      rw [e]; exact ext_pre _ _
    simp only [sleuthlaw0_Num.f, Option.bind_some, if_pos, if_pos c1, if_pos c2, Int.toNat_natCast, he, BEq.rfl]
    exact Ev.now _
end Go.Proofs.YtnhmmbgnaogokaaDoor.G
