/- The law FileCut of package file, as a plain statement about what the program computes. -/
import Derived.Test.YtnhmmbgnaogokaaDoorU10
import Derived.Test.YtnhmmbgnaogokaaDoorU9
import Derived.Test.YtnhmmbgnaogokaaDoorG32
namespace Go.Proofs.YtnhmmbgnaogokaaDoor.G
open Go.RowKit Go.Proofs.YtnhmmbgnaogokaaDoorW.PrintWords Go.Proofs.YtnhmmbgnaogokaaDoorW.PrintLast Go.Proofs.YtnhmmbgnaogokaaDoorW.PrintMore
set_option linter.unusedVariables false
set_option linter.unusedSimpArgs false
theorem modLenF (x : Int) (n : Nat) (hn : 0 < n) (hb : n ≤ 9223372036854775807) : ∃ i : Nat, i < n ∧ IntKind.u64.wrap (n : Int) ≠ 0 ∧ wrap64 (Int.tmod (IntKind.u64.wrap x) (IntKind.u64.wrap (n : Int))) = (i : Int) := by
  have h0 : 0 ≤ IntKind.u64.wrap x ∧ IntKind.u64.wrap x < 18446744073709551616 := by
    show 0 ≤ x % 18446744073709551616 ∧ x % 18446744073709551616 < 18446744073709551616
    omega
  have hn' : IntKind.u64.wrap (n : Int) = n := by
    show (n : Int) % 18446744073709551616 = n
    omega
  rw [hn']
  generalize IntKind.u64.wrap x = y at h0
  have hm : y % (n : Int) < n := Int.emod_lt_of_pos _ (by omega)
  have hm0 : 0 ≤ y % (n : Int) := Int.emod_nonneg _ (by omega)
  refine ⟨(y % (n : Int)).toNat, by omega, by omega, ?_⟩
  rw [Int.tmod_eq_emod_of_nonneg h0.1, w64 (by omega) (by omega)]
  omega
/-- what is loaded of a file that was cut -/
theorem load_cut {ns : List Nd} (hv : validS ns) (hs : (fileB ns).size ≤ 65536) (i : Nat) (hi : i ≤ (fileB ns).size) :
    ∃ m : Nat, m ≤ ns.length ∧ loadT ((fileB ns).extract 0 i) = (ns.take m, ((fileB (ns.take m)).size : Int)) ∧ (fileB (ns.take m)).size ≤ i ∧ (m < ns.length → i < (fileB (ns.take (m + 1))).size) := by
  have hz : ((fileB ns).extract 0 i).size = i := by rw [size_extract _ _ _ hi]; omega
  have hct : cutT ((fileB ns).extract 0 i) = (fileB ns).extract 0 i := cutT_le (by omega)
  have hL := loadS_spec (cutT ((fileB ns).extract 0 i))
  have hmax := fun (ys : List Nd) (r : ByteArray) (hy : validS ys) (ht : cutT ((fileB ns).extract 0 i) = fileB ys ++ r) => loadS_max hy ht
  unfold loadT
  generalize loadS (cutT ((fileB ns).extract 0 i)) = L at hL hmax ⊢
  obtain ⟨xs, to_⟩ := L
  obtain ⟨hv2, hto, ⟨r, hr⟩, _⟩ := hL
  simp only at hv2 hto hr hmax
  subst hto
  rw [hct] at hr hmax
  have hsp := split_at (fileB ns) i (fileB ns).size hi (Nat.le_refl _)
  have hN : fileB ns = fileB xs ++ (r ++ ((fileB ns).extract i (fileB ns).size ++ (fileB ns).extract (fileB ns).size (fileB ns).size)) := by
    rw [← app_assoc, ← hr]; exact hsp
  obtain ⟨zs, hzs⟩ := loadS_max hv2 hN
  rw [loadS_file hv] at hzs
  simp only at hzs
  have hxs : xs = ns.take xs.length := by rw [hzs]; simp
  have hle : xs.length ≤ ns.length := by rw [hzs, List.length_append]; omega
  have hsz : (fileB xs).size ≤ i := by
    have := congrArg ByteArray.size hr
    rw [hz, ByteArray.size_append] at this
    omega
  refine ⟨xs.length, hle, by rw [← hxs], by rw [← hxs]; exact hsz, fun hlt => ?_⟩
  rcases Nat.lt_or_ge i (fileB (ns.take (xs.length + 1))).size with c | c
  · exact c
  · exfalso
    have hyv : validS (ns.take (xs.length + 1)) := by
      have : validS (ns.take (xs.length + 1) ++ ns.drop (xs.length + 1)) := by rw [List.take_append_drop]; exact hv
      exact valid_left this
    have hB := fileB_take ns (xs.length + 1)
    have he : (fileB ns).extract 0 i = fileB (ns.take (xs.length + 1)) ++ ((fileB ns).extract 0 i).extract (fileB (ns.take (xs.length + 1))).size ((fileB ns).extract 0 i).size := by
      have e1 := split_at ((fileB ns).extract 0 i) (fileB (ns.take (xs.length + 1))).size ((fileB ns).extract 0 i).size (by omega) (Nat.le_refl _)
      have e2 : ((fileB ns).extract 0 i).extract 0 (fileB (ns.take (xs.length + 1))).size = fileB (ns.take (xs.length + 1)) := by
        apply bytesOf_inj
        rw [bytesOf_extract, bytesOf_extract, List.drop_zero, List.drop_zero, List.take_take, Nat.min_eq_left c, hB, bytesOf_append, List.take_append_of_le_length (by rw [bytesOf_length]; omega), List.take_of_length_le (by rw [bytesOf_length]; omega)]
      rw [e2] at e1
      have e3 : ((fileB ns).extract 0 i).extract ((fileB ns).extract 0 i).size ((fileB ns).extract 0 i).size = (⟨#[]⟩ : ByteArray) := by
        apply bytesOf_inj
        rw [bytesOf_extract, List.drop_of_length_le (by rw [List.length_take]; omega)]
        rfl
      rw [e3, app_nil] at e1
      exact e1
    obtain ⟨ws, hws⟩ := hmax _ _ hyv he
    have := congrArg List.length hws
    rw [List.length_append, List.length_take] at this
    omega
theorem cut_end {l0 : List Nd} {m i : Nat} (hv : validS l0) (c2 : (fileB l0).size ≤ 65536) (hm : m ≤ l0.length) (hvm : validS (l0.take m)) (hi : i ≤ 65536) (hnx : m < l0.length → i < (fileB (l0.take (m + 1))).size) : Ev (fun k => sleuthlaw17_FileCut.j0 k l0 (fileB l0) (i : Int) (l0.take m) ((fileB (l0.take m)).size : Int) false) true := by
  have hlen := valid_len hv
  have hml : (l0.take m).length = m := by rw [List.length_take]; omega
  by_cases c4 : m = l0.length
  · refine Ev.step (f := fun _ => some true) (fun k => ?_) (Ev.now _)
    subst c4
    rw [sleuthlaw17_FileCut.j0, if_neg Bool.false_ne_true, List.take_length, if_pos rfl, BEq.rfl]
  · have g8 : ¬ (((l0.take m).length : Nat) : Int) = (l0.length : Int) := by omega
    have hw2 : wrap64 ((((l0.take m).length : Nat) : Int) + 1) = ((m + 1 : Nat) : Int) := by rw [hml, w64 (by omega) (by omega)]; omega
    have g9 : 0 ≤ ((m + 1 : Nat) : Int) := by omega
    have g10 : ((m + 1 : Nat) : Int) ≤ (l0.length : Int) := by omega
    have hvn : validS (l0.take (m + 1)) := by
      have : validS (l0.take (m + 1) ++ l0.drop (m + 1)) := by rw [List.take_append_drop]; exact hv
      exact valid_left this
    have hsn : (fileB (l0.take (m + 1))).size ≤ 65536 := by
      have := congrArg ByteArray.size (fileB_take l0 (m + 1))
      rw [ByteArray.size_append] at this
      omega
    have e2 := text_ev (l0.take (m + 1))
    rw [textS_ok ((mayT_iff _).2 ⟨by rw [List.length_take]; omega, hvn⟩) hsn] at e2
    have g11 : ((fileB (l0.take (m + 1))).size : Int) > (i : Int) := by have := hnx (by omega); omega
    refine Ev.step (f := fun k => (file_Text.f k (l0.take (m + 1))).bind fun bt345 => ((sleuthlaw0_Num.f bt345.2).bind fun t347 => (if t347 = 0 then (if (bt345.1.size : Int) > (i : Int) then (if (((l0.take m).length : Nat) : Int) = 0 then (some true) else ((sleuthref12_TrailMay.f k (l0.take m)).bind fun t348 => (some t348))) else (none)) else (none)))) (fun k => ?_) ?_
    · rw [sleuthlaw17_FileCut.j0, if_neg Bool.false_ne_true, if_neg g8, hw2, if_pos g9, if_pos g10, Int.toNat_natCast]
    · refine Ev.bind e2 ?_
      simp only [sleuthlaw0_Num.f, Option.bind_some, if_pos, if_pos g11]
      by_cases c5 : (((l0.take m).length : Nat) : Int) = 0
      · simp only [if_pos c5]
        exact Ev.now _
      · simp only [if_neg c5]
        have e3 := refTrail_ev (l0.take m) (valid_ok hvm)
        rw [(mayT_iff _).2 ⟨by omega, hvm⟩] at e3
        exact Ev.bind e3 (Ev.now _)
theorem fileCut_pure (l0 : List Nd) (a1 : Int) (h : fineN l0) (h1 : (Lit.int .i64 a1).wf = true) : ∃ k, sleuthlaw17_FileCut.f k l0 a1 = some true := by
  refine Ev.rounds (g := fun k => sleuthlaw17_FileCut.f k l0 a1) ?_
  unfold sleuthlaw17_FileCut.f
  refine Ev.bind awake17_ev ?_
  simp only [if_pos]
  refine Ev.bind (text_ev l0) ?_
  rcases textS_cases l0 with ⟨c1, c2, c3⟩ | c
  · rw [c3]
    obtain ⟨hp, hv⟩ := (mayT_iff l0).1 c1
    have hlen := valid_len hv
    have hw : wrap64 (((fileB l0, (0 : Int)).1.size : Int) + 1) = (((fileB l0).size + 1 : Nat) : Int) := by
      show wrap64 (((fileB l0).size : Int) + 1) = _
      rw [w64 (by omega) (by omega)]; omega
    obtain ⟨i, hi, hne, he⟩ := modLenF a1 ((fileB l0).size + 1) (by omega) (by omega)
    obtain ⟨m, hm, hl, hsz, hnx⟩ := load_cut hv c2 i (by omega)
    have hml : (l0.take m).length = m := by rw [List.length_take]; omega
    have hvm : validS (l0.take m) := by
      have : validS (l0.take m ++ l0.drop m) := by rw [List.take_append_drop]; exact hv
      exact valid_left this
    have e1 := load_ev ((fileB l0).extract 0 i)
    rw [hl] at e1
    refine Ev.bind (num_ev (0 : Int)) ?_
    refine evp rfl ?_
    rw [hw]
    refine evn hne ?_
    rw [he]
    refine evp (show 0 ≤ (i : Int) by omega) ?_
    refine evp (show (i : Int) ≤ ((fileB l0).size : Int) by omega) ?_
    rw [Int.toNat_natCast]
    refine Ev.bind e1 ?_
    refine evn (show ¬ ((fileB (l0.take m)).size : Int) < 0 by omega) ?_
    refine evn (show ¬ ((fileB (l0.take m)).size : Int) > (i : Int) by omega) ?_
    refine evn (show ¬ (((l0.take m).length : Nat) : Int) > (l0.length : Int) by omega) ?_
    refine evp (show 0 ≤ (((l0.take m).length : Nat) : Int) by omega) ?_
    refine evp (show (((l0.take m).length : Nat) : Int) ≤ (l0.length : Int) by omega) ?_
    have hse := sameNodes_ev (l0.take m) (valid_ok hvm)
    have hq : l0.take (((((l0.take m, ((fileB (l0.take m)).size : Int)).1.length : Nat) : Int)).toNat) = l0.take m := by rw [Int.toNat_natCast]; show l0.take (l0.take m).length = _; rw [hml]
    rw [hq]
    refine Ev.bind hse ?_
    exact cut_end hv c2 hm hvm (by omega) hnx
  · rw [c]
    have g : ¬ (1700 : Int) = 0 := by decide
    simp only [sleuthlaw0_Num.f, Option.bind_some, if_neg g, toList_eq, BEq.rfl]
    exact Ev.now _
end Go.Proofs.YtnhmmbgnaogokaaDoor.G
