/- What the document tells of trails as bytes: the same (textS, loadT). -/
import Derived.Test.YtnhmmbgnaogokaaGreatDoorU10
import Derived.Test.YtnhmmbgnaogokaaGreatDoorRecRef
import Derived.Test.YtnhmmbgnaogokaaGreatDoorU11
import Derived.Test.YtnhmmbgnaogokaaGreatDoorU7
import Derived.Test.YtnhmmbgnaogokaaGreatDoorU9
namespace Go.Proofs.YtnhmmbgnaogokaaGreatDoor.G
open Go.RowKit Go.Proofs.YtnhmmbgnaogokaaGreatDoorW.PrintWords Go.Proofs.YtnhmmbgnaogokaaGreatDoorW.PrintLast Go.Proofs.YtnhmmbgnaogokaaGreatDoorW.PrintMore
set_option linter.unusedVariables false
set_option linter.unusedSimpArgs false
theorem getR_args (s : ByteArray) : (getR s).1.f2.length ≤ 3 := by
  unfold getR
  by_cases c : recS (getP (bytesOf s)) = true ∧ recOf (getP (bytesOf s)) = s
  · rw [if_pos c]
    exact (eqS_spec (recS_spec c.1).1).2.2.1
  · rw [if_neg c]; decide
theorem fileB_le {xs : List Nd} (h : ∀ x ∈ xs, recS x = true) : (fileB xs).size ≤ 8198 * xs.length := by
  induction xs with
  | nil => exact Nat.le_refl _
  | cons x xs ih =>
    rw [fileB, ByteArray.size_append, frec_size, List.length_cons]
    have h1 := recOf_size (h x List.mem_cons_self)
    have h2 := ih (fun y hy => h y (List.mem_cons_of_mem _ hy))
    omega
theorem refText_l0 (ns : List Nd) (hv : validS ns) : ∀ (n i : Nat), i + n = ns.length → Ev (fun k => sleuthref12_FileText.l0 k ns (fileB (ns.take i)) (i : Int)) (if 65536 < (fileB ns).size then ((⟨#[]⟩ : ByteArray), (1700 : Int)) else (fileB ns, 0)) := by
  intro n
  have hlen := valid_len hv
  induction n with
  | zero =>
    intro i hi
    rw [List.take_of_length_le (by omega)]
    have g : ¬ (i : Int) < (ns.length : Int) := by omega
    refine Ev.step (f := fun _ => some (if 65536 < (fileB ns).size then ((⟨#[]⟩ : ByteArray), (1700 : Int)) else (fileB ns, 0))) (fun k => ?_) (Ev.now _)
    rw [sleuthref12_FileText.l0, if_neg g]
    by_cases c : 65536 < (fileB ns).size
    · rw [if_pos c, if_pos (show ((fileB ns).size : Int) > 65536 by omega)]
    · rw [if_neg c, if_neg (show ¬ ((fileB ns).size : Int) > 65536 by omega)]
  | succ n ih =>
    intro i hi
    have hlt : i < ns.length := by omega
    have hx := hv i hlt
    have hr := recS_of_next hx
    have hr2 := recS_spec hr
    have hq := eqS_spec hr2.1
    have e1 := refPutRec_ev ns[i] (by omega) (by omega) (by omega)
    have e2 := refPut_ev (recOf ns[i])
    have hp : putR ns[i] = (recOf ns[i], 0) := by unfold putR; rw [if_pos hr]
    have hf : putF (recOf ns[i]) = (frec ns[i], 0) := putF_small _ (recOf_size hr)
    rw [hp] at e1
    rw [hf] at e2
    have c1 : (i : Int) < (ns.length : Int) := by omega
    have c0 : 0 ≤ (i : Int) := by omega
    have hz := frec_size ns[i]
    have hz2 := recOf_size hr
    have hz3 := fileB_le (xs := ns.take i) (fun x hx => by
      obtain ⟨j, hj, rfl⟩ := List.getElem_of_mem (List.mem_of_mem_take hx)
      exact recS_of_next (hv j hj))
    have hz4 : (ns.take i).length = i := by rw [List.length_take]; omega
    have c2 : (fileB (ns.take i)).size + (frec ns[i]).size ≤ 9223372036854775807 := by omega
    have eT : fileB (ns.take i) ++ frec ns[i] = fileB (ns.take (i + 1)) := by rw [List.take_succ_eq_append_getElem hlt, fileB_app, fileB_one]
    have hw : wrap64 ((i : Int) + 1) = ((i + 1 : Nat) : Int) := by rw [w64 (by omega) (by omega)]; omega
    refine Ev.step (f := fun k => (sleuthref12_PutRecord.f k ns[i].f0 ns[i].f1 ns[i].f2 ns[i].f3).bind fun s => (sleuthref12_PutFrame.f k s.1).bind fun t => if (fileB (ns.take i)).size + t.1.size ≤ 9223372036854775807 then sleuthref12_FileText.l0 k ns ((fileB (ns.take i)) ++ t.1) ((i + 1 : Nat) : Int) else none) (fun k => ?_) ?_
    · rw [sleuthref12_FileText.l0, if_pos c1, if_pos c0, hw]
      have := rn_eq ns i hlt
      unfold rn at this
      rw [this]
    · refine Ev.bind e1 (Ev.bind e2 ?_)
      simp only [if_pos c2, eT]
      exact ih (i + 1) (by omega)
theorem refText_ev (ns : List Nd) (hok : okN ns) : Ev (fun k => sleuthref12_FileText.f k ns) (textS ns) := by
  unfold sleuthref12_FileText.f textS
  refine Ev.bind (refTrail_ev ns hok) ?_
  by_cases c : mayT ns = true
  · simp only [c, if_pos]
    exact refText_l0 ns ((mayT_iff ns).1 c).2 ns.length 0 (by omega)
  · rw [if_neg c]
    simp only [if_neg c]
    exact Ev.now _
theorem refLoad_l0 (t : ByteArray) (ht : t.size ≤ 65536) : ∀ (n m : Nat) (out : List Nd) (at_ : Int), 0 ≤ at_ → at_ ≤ (t.size : Int) → (t.size : Int) - at_ < n → m + out.length = 513 → Ev (fun k => sleuthref12_LoadFile.l0 k t out at_) (loadK t m out at_)
  | 0, m, out, at_, h0, h1, h2, hm => absurd h2 (by omega)
  | n + 1, m, out, at_, h0, h1, h2, hm => by
    have e1 := refGet_ev t at_ (by omega) (by omega) (by omega)
    have e2 := refGetRec_ev (getF t at_).1
    have e3 := refStands_ev (getR (getF t at_).1).1 (Nat.le_trans (getR_args _) (by decide)) out.length
    have stop : stepF t out.length at_ = none → loadK t m out at_ = (out, at_) := fun hs => by
      cases m with
      | zero => rfl
      | succ m => rw [loadK, hs]
    refine Ev.step (f := fun k => (sleuthref12_GetFrame.f k t at_).bind fun bt317 => (if bt317.2.2 = 0 then ((sleuthref12_GetRecord.f k bt317.1).bind fun bt320 => (if bt320.2.2.2.2 = 0 then ((sleuthref12_stands.f k bt320.1 bt320.2.1 bt320.2.2.1 bt320.2.2.2.1 (out.length : Int)).bind fun t328 => (if t328 = true then (if out.length < 2513169434916 then (sleuthref12_LoadFile.l0 k t (out ++ [(⟨bt320.1, bt320.2.1, bt320.2.2.1, bt320.2.2.2.1⟩ : Nd)]) bt317.2.1) else (none)) else (some (out, at_)))) else (some (out, at_)))) else (some (out, at_)))) (fun k => by rw [sleuthref12_LoadFile.l0]) ?_
    refine Ev.bind e1 ?_
    by_cases c : (getF t at_).2.2 = 0
    · refine evp c ?_
      obtain ⟨g0, g1, g2⟩ := getF_next c
      refine Ev.bind e2 ?_
      by_cases c2 : (getR (getF t at_).1).2 = 0
      · refine evp c2 ?_
        refine Ev.bind e3 ?_
        by_cases c3 : nextS (getR (getF t at_).1).1 (out.length : Int) = true
        · have hlt := nextS_512 c3
          have c4 : out.length < 2513169434916 := by omega
          refine evp c3 (evp c4 ?_)
          obtain ⟨m', hm'⟩ : ∃ m', m = m' + 1 := ⟨m - 1, by omega⟩
          have hs : stepF t out.length at_ = some ((getR (getF t at_).1).1, (getF t at_).2.1) := by unfold stepF; rw [if_pos c, if_pos c2, if_pos c3]
          have hk : loadK t m out at_ = loadK t m' (out ++ [(getR (getF t at_).1).1]) (getF t at_).2.1 := by rw [hm', loadK, hs]
          rw [hk]
          exact refLoad_l0 t ht n m' _ _ (by omega) g2 (by omega) (by rw [List.length_append, List.length_singleton]; omega)
        · refine evn c3 ?_
          rw [stop (by unfold stepF; rw [if_pos c, if_pos c2, if_neg c3])]
          exact Ev.now _
      · refine evn c2 ?_
        rw [stop (by unfold stepF; rw [if_pos c, if_neg c2])]
        exact Ev.now _
    · refine evn c ?_
      rw [stop (by unfold stepF; rw [if_neg c])]
      exact Ev.now _
theorem refLoad_ev (s : ByteArray) (hs : s.size ≤ 140737488351232) : Ev (fun k => sleuthref12_LoadFile.f k s) (loadT s) := by
  have hz := cutT_size s
  have hm : mn (s.size : Int) 65536 = ((min s.size 65536 : Nat) : Int) := by unfold mn; split <;> omega
  have c1 : 0 ≤ mn (s.size : Int) 65536 := by omega
  have c2 : mn (s.size : Int) 65536 ≤ (s.size : Int) := by omega
  unfold sleuthref12_LoadFile.f
  refine evp c1 (evp c2 ?_)
  rw [hm, Int.toNat_natCast]
  exact refLoad_l0 (cutT s) (by omega) ((cutT s).size + 1) 513 [] 0 (by omega) (by omega) (by omega) rfl
end Go.Proofs.YtnhmmbgnaogokaaGreatDoor.G
