/- The law Files of package file, as a plain statement about what the program computes. -/
import Derived.Test.YtnhmmbgnaogokaaGreatDoorU11
import Derived.Test.YtnhmmbgnaogokaaGreatDoorFileRef
import Derived.Test.YtnhmmbgnaogokaaGreatDoorU10
import Derived.Test.YtnhmmbgnaogokaaGreatDoorG40
import Derived.Test.YtnhmmbgnaogokaaGreatDoorG42
namespace Go.Proofs.YtnhmmbgnaogokaaGreatDoor.G
open Go.RowKit Go.Proofs.YtnhmmbgnaogokaaGreatDoorW.PrintWords Go.Proofs.YtnhmmbgnaogokaaGreatDoorW.PrintLast Go.Proofs.YtnhmmbgnaogokaaGreatDoorW.PrintMore
set_option linter.unusedVariables false
set_option linter.unusedSimpArgs false
theorem valid_spoil {xs : List Nd} (h : validS xs) : sn_ok xs = true := by
  unfold sn_ok
  rw [decide_eq_true (show xs.length ≤ 9223372036854775806 by have := valid_len h; omega), Bool.true_and]
  refine List.all_eq_true.2 fun x hx => ?_
  have hq := eqS_spec (recS_spec (valid_rec h x hx)).1
  rw [decide_eq_true (show x.f2.length ≤ 9223372036854775806 by have := hq.2.2.1; omega), Bool.true_and]
  exact List.all_eq_true.2 fun s hs => decide_eq_true (by have := mayS_size (hq.2.2.2.1 s hs); omega)
theorem files_j0 (ns xs : List Nd) (hok : okN ns) (hv : validS xs) : Ev (fun k => sleuthlaw17_Files.j0 k ns ns xs false) true := by
  refine Ev.step (f := fun k => (sleuthlaw0_SpoilNodes.f k xs).bind fun _ => ((sleuthlaw0_SameNodes.f k ns ns).bind fun t397 => (if t397 = true then ((sleuthlaw17_awake.f k).bind fun t398 => (some t398)) else (none)))) (fun k => by rw [sleuthlaw17_Files.j0, if_neg Bool.false_ne_true]) ?_
  have e : Ev (fun k => sleuthlaw0_SpoilNodes.f k xs) () := by
    unfold sleuthlaw0_SpoilNodes.f
    rw [if_pos (valid_spoil hv)]
    exact Ev.now _
  refine Ev.bind e (Ev.bind (sameNodes_ev ns hok) ?_)
  simp only [if_pos]
  exact Ev.bind awake17_ev (Ev.now _)
theorem files_pure (l0 : List Nd) (a1 : ByteArray) (h : fineN l0) (h1 : a1.size ≤ 140737488351232) : ∃ k, sleuthlaw17_Files.f k l0 a1 = some true := by
  refine Ev.rounds (g := fun k => sleuthlaw17_Files.f k l0 a1) ?_
  have hok := h.ok
  have hvL : validS (loadT a1).1 := (loadS_spec (cutT a1)).1
  unfold sleuthlaw17_Files.f
  refine Ev.bind (copy_ev l0 hok) ?_
  refine Ev.bind (text_ev l0) ?_
  refine Ev.bind (refText_ev l0 hok) ?_
  refine Ev.bind (load_ev a1) ?_
  refine Ev.bind (refLoad_ev a1 h1) ?_
  refine Ev.bind (load_ev (textS l0).1) ?_
  refine evp rfl ?_
  refine Ev.bind (num_ev (textS l0).2) ?_
  refine evp rfl ?_
  refine Ev.bind (sameNodes_ev (loadT a1).1 (valid_ok hvL)) ?_
  refine evp rfl ?_
  refine evp rfl ?_
  rcases textS_cases l0 with ⟨c1, c2, c3⟩ | c
  · obtain ⟨hp, hv⟩ := (mayT_iff l0).1 c1
    rw [c3, load_file hv c2]
    refine evp rfl ?_
    refine Ev.bind (sameNodes_ev l0 hok) ?_
    refine evp rfl ?_
    have e : ((((fileB l0).size : Nat) : Int) != (((fileB l0).size : Nat) : Int)) = false := bne_self_eq_false _
    show Ev (fun n => sleuthlaw17_Files.j0 n l0 l0 (loadT a1).1 ((((fileB l0).size : Nat) : Int) != (((fileB l0).size : Nat) : Int))) true
    rw [e]
    exact files_j0 l0 _ hok hvL
  · rw [c]
    refine evn (by decide) ?_
    exact files_j0 l0 _ hok hvL
end Go.Proofs.YtnhmmbgnaogokaaGreatDoor.G
