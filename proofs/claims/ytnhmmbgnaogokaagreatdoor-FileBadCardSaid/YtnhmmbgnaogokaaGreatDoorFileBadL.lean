/- The law FileBad of package file, as a plain statement about what the program computes. -/
import Derived.Test.YtnhmmbgnaogokaaGreatDoorU11
import Derived.Test.YtnhmmbgnaogokaaGreatDoorFileRef
import Derived.Test.YtnhmmbgnaogokaaGreatDoorG43
import Derived.Test.YtnhmmbgnaogokaaGreatDoorG44
namespace Go.Proofs.YtnhmmbgnaogokaaGreatDoor.G
open Go.RowKit Go.Proofs.YtnhmmbgnaogokaaGreatDoorW.PrintWords Go.Proofs.YtnhmmbgnaogokaaGreatDoorW.PrintLast Go.Proofs.YtnhmmbgnaogokaaGreatDoorW.PrintMore
set_option linter.unusedVariables false
set_option linter.unusedSimpArgs false
theorem frec_inj' {x y : Nd} (hx : recS x = true) (hy : recS y = true) {r1 r2 : ByteArray} (h : frec x ++ r1 = frec y ++ r2) : x = y := by
  have e : recOf x = recOf y := by
    have g1 := get_frame ⟨#[]⟩ (recOf x) r1 (recOf_size hx)
    have g2 := get_frame ⟨#[]⟩ (recOf y) r2 (recOf_size hy)
    rw [nil_app] at g1 g2
    have h' : frameOf (recOf x) ++ r1 = frameOf (recOf y) ++ r2 := h
    rw [h', g2] at g1
    exact (Prod.mk.inj g1).1.symm
  have e1 := getR_of hx e
  have e2 := getR_of hy rfl
  rw [e1] at e2
  exact (Prod.mk.inj e2).1
/-- bytes that are no node for a place -/
def noNode (o : ByteArray) (m : Nat) : Prop := ∀ (x : Nd) (r r' : ByteArray), nextS x (m : Int) = true → o ++ r ≠ frec x ++ r'
theorem noNode.step {o : ByteArray} {m : Nat} (h : noNode o m) (a r : ByteArray) : stepF (a ++ (o ++ r)) m (a.size : Int) = none := by
  cases hc : stepF (a ++ (o ++ r)) m (a.size : Int) with
  | none => rfl
  | some p =>
    obtain ⟨x, to_⟩ := p
    obtain ⟨h1, _, r', h3⟩ := stepF_of rfl hc
    exact absurd h3 (h x r r' h1)
theorem frec_head (x : Nd) (r : ByteArray) : bytesOf (frec x ++ r) = ((recOf x).size : Int) % 4294967296 % 256 :: ((recOf x).size : Int) % 4294967296 / 256 % 256 :: (bytesOf (recOf x) ++ (lowL 4 (crcI (headL (recOf x))) ++ bytesOf r)) := by
  rw [bytesOf_append]
  show bytesOf (frameOf (recOf x)) ++ _ = _
  rw [frame_bytes]
  show ([((recOf x).size : Int) % 4294967296 % 256, ((recOf x).size : Int) % 4294967296 / 256 % 256] ++ bytesOf (recOf x) ++ lowL 4 (crcI (headL (recOf x)))) ++ bytesOf r = _
  simp only [List.append_assoc, List.cons_append, List.nil_append]
theorem recOf_pos (x : Nd) : 6 ≤ (recOf x).size := by
  unfold recOf recL textL
  rw [size_strOfNums]
  simp only [List.length_append, lowL_length]
  omega
theorem odd_zero (m : Nat) : noNode (⟨#[255, 255]⟩ : ByteArray) m := fun x r r' h e => by
  have hz := recOf_size (recS_of_next h)
  have e1 := congrArg bytesOf e
  rw [frec_head, bytesOf_append] at e1
  have e2 : (255 : Int) = ((recOf x).size : Int) % 4294967296 / 256 % 256 := (List.cons.inj (List.cons.inj e1).2).1
  omega
theorem odd_one (m : Nat) : noNode (⟨#[0, 0, 0, 0, 0, 1]⟩ : ByteArray) m := fun x r r' h e => by
  have hz := recOf_size (recS_of_next h)
  have hp := recOf_pos x
  have e1 := congrArg bytesOf e
  rw [frec_head, bytesOf_append] at e1
  have e2 : (0 : Int) = ((recOf x).size : Int) % 4294967296 % 256 := (List.cons.inj e1).1
  have e3 : (0 : Int) = ((recOf x).size : Int) % 4294967296 / 256 % 256 := (List.cons.inj (List.cons.inj e1).2).1
  omega
def noRec : ByteArray := ⟨#[110, 111, 32, 114, 101, 99, 111, 114, 100]⟩
theorem noRec_get : getR noRec = (⟨0, 0, [], ⟨#[]⟩⟩, 1500) := by kernel_rfl
theorem odd_two (m : Nat) : noNode (frameOf noRec) m := fun x r r' h e => by
  have hx := recS_of_next h
  have g1 := get_frame ⟨#[]⟩ noRec r (by decide)
  have g2 := get_frame ⟨#[]⟩ (recOf x) r' (recOf_size hx)
  rw [nil_app] at g1 g2
  have h' : frameOf noRec ++ r = frameOf (recOf x) ++ r' := e
  rw [h', g2] at g1
  have e1 := getR_of hx (Prod.mk.inj g1).1
  rw [noRec_get] at e1
  exact absurd (Prod.mk.inj e1).2 (by decide)
theorem odd_node {y : Nd} (m : Nat) (hy : recS y = true) (hn : nextS y (m : Int) = false) : noNode (frec y) m := fun x r r' h e => by
  have := frec_inj' hy (recS_of_next h) e
  rw [this, h] at hn
  cases hn
theorem nodeY_rec (p : Int) (h0 : -1 ≤ p) (h1 : p < 512) : recS ⟨0, p, [], ⟨#[49]⟩⟩ = true := by
  have e : mayS (⟨#[49]⟩ : ByteArray) = true := by kernel_rfl
  unfold recS eqS
  simp [e]
  omega
theorem nodeY_not (p : Int) (m : Nat) (h : ¬ ((0 ≤ p ∧ p < (m : Int)) ∨ ((m : Int) = 0 ∧ p = -1))) : nextS ⟨0, p, [], ⟨#[49]⟩⟩ (m : Int) = false := by
  unfold nextS
  rw [Bool.and_eq_false_iff]
  left
  rw [Bool.and_eq_false_iff]
  right
  rw [Bool.or_eq_false_iff]
  exact ⟨decide_eq_false fun h2 => h (.inl h2), decide_eq_false fun h2 => h (.inr h2)⟩
theorem putY_ev (p : Int) (h0 : -1 ≤ p) (h1 : p < 512) : Ev (fun k => (sleuthref12_PutRecord.f k 0 p ([] : List ByteArray) (⟨#[49]⟩ : ByteArray)).bind fun bt401 => ((sleuthref12_PutFrame.f k bt401.1).bind fun bt403 => (some bt403.1))) (frec ⟨0, p, [], ⟨#[49]⟩⟩) := by
  have hr := nodeY_rec p h0 h1
  have e1 := refPutRec_ev ⟨0, p, [], ⟨#[49]⟩⟩ (by show ([] : List ByteArray).length ≤ _; decide) (by show _ ≤ p; omega) (by show p ≤ _; omega)
  have hp : putR ⟨0, p, [], ⟨#[49]⟩⟩ = (recOf ⟨0, p, [], ⟨#[49]⟩⟩, 0) := by unfold putR; rw [if_pos hr]
  have e2 := refPut_ev (recOf ⟨0, p, [], ⟨#[49]⟩⟩)
  have hf : putF (recOf ⟨0, p, [], ⟨#[49]⟩⟩) = (frec ⟨0, p, [], ⟨#[49]⟩⟩, 0) := putF_small _ (recOf_size hr)
  rw [hp] at e1
  rw [hf] at e2
  exact Ev.bind e1 (Ev.bind e2 (Ev.now _))
theorem nodeY_size (p : Int) (h0 : -1 ≤ p) (h1 : p < 512) : (frec ⟨0, p, [], ⟨#[49]⟩⟩).size ≤ 8198 := by
  rw [frec_size]
  have := recOf_size (nodeY_rec p h0 h1)
  omega
theorem odd_ev (w : Int) (m : Nat) (hm : m ≤ 5) : ∃ o, Ev (fun k => sleuthlaw17_odd.f k w (m : Int)) o ∧ o.size ≤ 8198 ∧ noNode o m := by
  unfold sleuthlaw17_odd.f
  by_cases c0 : (Int.tmod (IntKind.u64.wrap w) 5) = 0
  · exact ⟨_, evp c0 (Ev.now _), by decide, odd_zero m⟩
  by_cases c1 : (Int.tmod (IntKind.u64.wrap w) 5) = 1
  · exact ⟨_, evn c0 (evp c1 (Ev.now _)), by decide, odd_one m⟩
  by_cases c2 : (Int.tmod (IntKind.u64.wrap w) 5) = 2
  · have e := refPut_ev noRec
    rw [putF_small noRec (by decide)] at e
    exact ⟨_, evn c0 (evn c1 (evp c2 (Ev.bind e (Ev.now _)))), by show (frameOf noRec).size ≤ _; rw [frame_size]; decide, odd_two m⟩
  by_cases c3 : (Int.tmod (IntKind.u64.wrap w) 5) = 3
  · exact ⟨_, evn c0 (evn c1 (evn c2 (evp c3 (putY_ev (m : Int) (by omega) (by omega))))), nodeY_size _ (by omega) (by omega), odd_node m (nodeY_rec _ (by omega) (by omega)) (nodeY_not _ m (by omega))⟩
  by_cases c4 : (m : Int) = 0
  · exact ⟨_, evn c0 (evn c1 (evn c2 (evn c3 (evp c4 (putY_ev 0 (by omega) (by omega)))))), nodeY_size _ (by omega) (by omega), odd_node m (nodeY_rec _ (by omega) (by omega)) (nodeY_not _ m (by omega))⟩
  · exact ⟨_, evn c0 (evn c1 (evn c2 (evn c3 (evn c4 (putY_ev (-1) (by omega) (by omega)))))), nodeY_size _ (by omega) (by omega), odd_node m (nodeY_rec _ (by omega) (by omega)) (nodeY_not _ m (by omega))⟩
theorem some17_valid : validS some17 := ((mayT_iff some17).1 some17_may).2
theorem some17_len : some17.length = 5 := rfl
def badT (x5 : Nat) (o : ByteArray) : Nat → ByteArray
  | 0 => ⟨#[]⟩
  | i + 1 => (if i = x5 then badT x5 o i ++ o else badT x5 o i) ++ frec (rn some17 (i : Int))
theorem badT_size (x5 : Nat) (o : ByteArray) (ho : o.size ≤ 8198) : ∀ i, i ≤ 5 → (badT x5 o i).size ≤ 8198 * i + (if x5 < i then 8198 else 0)
  | 0, _ => by show 0 ≤ _; omega
  | i + 1, h => by
    have h1 := badT_size x5 o ho i (by omega)
    have hr : rn some17 (i : Int) = some17[i]'(by rw [some17_len]; omega) := rn_eq some17 i _
    have h2 := recOf_size (recS_of_next (some17_valid i (by rw [some17_len]; omega)))
    rw [badT, ByteArray.size_append, hr, frec_size]
    by_cases c : i = x5
    · rw [if_neg (by omega)] at h1
      rw [if_pos c, ByteArray.size_append, if_pos (by omega)]; omega
    · rw [if_neg c]
      by_cases c2 : x5 < i
      · rw [if_pos c2] at h1
        rw [if_pos (by omega)]; omega
      · rw [if_neg c2] at h1
        rw [if_neg (by omega)]; omega
theorem badT_low (x5 : Nat) (o : ByteArray) : ∀ i, i ≤ 5 → i ≤ x5 → badT x5 o i = fileB (some17.take i)
  | 0, _, _ => by rw [List.take_zero]; rfl
  | i + 1, h, hi => by
    have hlt : i < some17.length := by rw [some17_len]; omega
    rw [badT, if_neg (by omega), badT_low x5 o i (by omega) (by omega), List.take_succ_eq_append_getElem hlt, fileB_app, fileB_one, rn_eq some17 i hlt]
theorem badT_high (x5 : Nat) (o : ByteArray) : ∀ i, i ≤ 5 → x5 < i → ∃ r, badT x5 o i = fileB (some17.take x5) ++ (o ++ r)
  | 0, _, h => absurd h (Nat.not_lt_zero _)
  | i + 1, h, hi => by
    by_cases c : i = x5
    · subst c
      rw [badT, if_pos rfl, badT_low i o i (by omega) (Nat.le_refl _), app_assoc]
      exact ⟨_, rfl⟩
    · obtain ⟨r, hr⟩ := badT_high x5 o i (by omega) (by omega)
      rw [badT, if_neg c, hr, app_assoc, app_assoc]
      exact ⟨_, rfl⟩
theorem bad_j1 (x5 : Nat) (h5 : x5 ≤ 5) (o : ByteArray) (hno : noNode o x5) (r : ByteArray) (hs : (fileB (some17.take x5) ++ (o ++ r)).size ≤ 65536) : Ev (fun k => sleuthlaw17_FileBad.j1 k (x5 : Int) (fileB (some17.take x5) ++ (o ++ r))) true := by
  have hv : validS (some17.take x5) := by
    have : validS (some17.take x5 ++ some17.drop x5) := by rw [List.take_append_drop]; exact some17_valid
    exact valid_left this
  have hl : (some17.take x5).length = x5 := by rw [List.length_take, some17_len]; omega
  have e1 := load_ev (fileB (some17.take x5) ++ (o ++ r))
  have hL : loadT (fileB (some17.take x5) ++ (o ++ r)) = (some17.take x5, ((fileB (some17.take x5)).size : Int)) := by
    unfold loadT
    rw [cutT_le hs]
    refine loadS_eq hv rfl ?_
    rw [hl]
    exact hno.step _ _
  rw [hL] at e1
  have e2 := refText_ev (some17.take x5) (valid_ok hv)
  have hz : (textS (some17.take x5)).1.size = (fileB (some17.take x5)).size := by
    by_cases c : x5 = 0
    · subst c
      rw [List.take_zero]
      have : textS [] = (⟨#[]⟩, 1700) := by unfold textS; rw [if_neg (by decide)]
      rw [this]; rfl
    · have hb := fileB_le (xs := some17.take x5) (valid_rec hv)
      rw [textS_ok ((mayT_iff _).2 ⟨by omega, hv⟩) (by omega)]
  have g0 : 0 ≤ (x5 : Int) := by omega
  have g1 : (x5 : Int) ≤ ((some17.length : Nat) : Int) := by rw [some17_len]; omega
  refine Ev.step (f := fun k => (file_Load.f k (fileB (some17.take x5) ++ (o ++ r))).bind fun bt432 => ((sleuthref12_FileText.f k (some17.take x5)).bind fun bt444 => ((sleuthlaw0_SameNodes.f k bt432.1 (some17.take x5)).bind fun t455 => (if t455 = true then (some (bt432.2 == (bt444.1.size : Int))) else (none))))) (fun k => ?_) ?_
  · simp only [sleuthlaw17_FileBad.j1, some17_eq, Option.bind_some, if_pos g0, if_pos g1, Int.toNat_natCast, sleuthlaw0_Num.f, if_pos]
  · refine Ev.bind e1 (Ev.bind e2 (Ev.bind (sameNodes_ev _ (valid_ok hv)) ?_))
    refine evp rfl ?_
    rw [hz]
    simp only [BEq.rfl]
    exact Ev.now _
theorem bad_l0 (w : Int) (x5 : Nat) (h5 : x5 ≤ 5) (o : ByteArray) (ho : o.size ≤ 8198) (ev : Ev (fun k => sleuthlaw17_odd.f k w (x5 : Int)) o) (hno : noNode o x5) : ∀ (d i : Nat), i + d = 5 → Ev (fun k => sleuthlaw17_FileBad.l0 k w (x5 : Int) (badT x5 o i) (i : Int)) true := by
  intro d
  induction d with
  | zero =>
    intro i hi
    have hi' : i = 5 := by omega
    subst hi'
    have hz := badT_size x5 o ho 5 (by omega)
    have hz9 : (badT x5 o 5).size ≤ 49188 := Nat.le_trans hz (by split <;> omega)
    have g : ¬ ((5 : Nat) : Int) < 5 := by decide
    by_cases c : x5 = 5
    · subst c
      have c' : ((5 : Nat) : Int) = 5 := rfl
      have hb := badT_low 5 o 5 (by omega) (Nat.le_refl _)
      have hz2 : (fileB (some17.take 5)).size ≤ 40990 := by
        have := fileB_le (xs := some17.take 5) (fun x hx => valid_rec some17_valid x (List.mem_of_mem_take hx))
        have hl : (some17.take 5).length = 5 := rfl
        omega
      have g2 : (badT 5 o 5).size + o.size ≤ 9223372036854775807 := by omega
      have hj := bad_j1 5 (by omega) o hno ⟨#[]⟩ (by rw [app_nil, ByteArray.size_append]; omega)
      rw [app_nil, ← hb] at hj
      refine Ev.step (f := fun k => (sleuthlaw17_odd.f k w 5).bind fun t431 => (if (badT 5 o 5).size + t431.size ≤ 9223372036854775807 then (sleuthlaw17_FileBad.j1 k 5 (badT 5 o 5 ++ t431)) else (none))) (fun k => ?_) ?_
      · rw [sleuthlaw17_FileBad.l0, if_neg g, if_pos c']
        rfl
      · refine Ev.bind ev ?_
        exact evp g2 hj
    · have c' : ¬ (x5 : Int) = 5 := by omega
      obtain ⟨r, hr⟩ := badT_high x5 o 5 (by omega) (by omega)
      have hsz : (badT x5 o 5).size ≤ 65536 := by
        rw [if_pos (by omega)] at hz
        omega
      refine Ev.step (f := fun k => sleuthlaw17_FileBad.j1 k (x5 : Int) (badT x5 o 5)) (fun k => by rw [sleuthlaw17_FileBad.l0, if_neg g, if_neg c']) ?_
      rw [hr]
      rw [hr] at hsz
      exact bad_j1 x5 h5 o hno r hsz
  | succ d ih =>
    intro i hi
    have hlt : i < some17.length := by rw [some17_len]; omega
    have hz9 : (badT x5 o i).size ≤ 49188 := Nat.le_trans (badT_size x5 o ho i (by omega)) (by split <;> omega)
    have hrr := recS_of_next (some17_valid i hlt)
    have hr2 := recS_spec hrr
    have hq := eqS_spec hr2.1
    have e1 := refPutRec_ev some17[i] (by omega) (by omega) (by omega)
    have e2 := refPut_ev (recOf some17[i])
    have hp : putR some17[i] = (recOf some17[i], 0) := by unfold putR; rw [if_pos hrr]
    have hf : putF (recOf some17[i]) = (frec some17[i], 0) := putF_small _ (recOf_size hrr)
    rw [hp] at e1
    rw [hf] at e2
    have hfz := frec_size some17[i]
    have hfz2 := recOf_size hrr
    have g0 : (i : Int) < 5 := by omega
    have g1 : 0 ≤ (i : Int) := by omega
    have g2 : (i : Int) < ((some17.length : Nat) : Int) := by omega
    have hrn : rn some17 (i : Int) = some17[i] := rn_eq some17 i hlt
    have hw : wrap64 ((i : Int) + 1) = ((i + 1 : Nat) : Int) := by rw [w64 (by omega) (by omega)]; omega
    have ih1 := ih (i + 1) (by omega)
    by_cases c : i = x5
    · subst c
      have hb1 : badT i o (i + 1) = (badT i o i ++ o) ++ frec some17[i] := by rw [badT, if_pos rfl, hrn]
      rw [hb1] at ih1
      have g3 : (badT i o i).size + o.size ≤ 9223372036854775807 := by omega
      have g4 : (badT i o i ++ o).size + (frec some17[i]).size ≤ 9223372036854775807 := by rw [ByteArray.size_append]; omega
      refine Ev.step (f := fun k => (sleuthlaw17_odd.f k w (i : Int)).bind fun t414 => (if (badT i o i).size + t414.size ≤ 9223372036854775807 then ((sleuthref12_PutRecord.f k some17[i].f0 some17[i].f1 some17[i].f2 some17[i].f3).bind fun bt419 => ((sleuthref12_PutFrame.f k bt419.1).bind fun bt421 => (if (badT i o i ++ t414).size + bt421.1.size ≤ 9223372036854775807 then (sleuthlaw17_FileBad.l0 k w (i : Int) ((badT i o i ++ t414) ++ bt421.1) ((i + 1 : Nat) : Int)) else (none)))) else (none))) (fun k => ?_) ?_
      · unfold rn at hrn
        rw [sleuthlaw17_FileBad.l0, if_pos g0, if_pos rfl]
        simp only [some17_eq, Option.bind_some, if_pos g1, if_pos g2, hrn, hw]
      · refine Ev.bind ev (evp g3 (Ev.bind e1 (Ev.bind e2 (evp g4 ?_))))
        exact ih1
    · have c' : ¬ (i : Int) = (x5 : Int) := fun h_ => c (Int.ofNat.inj h_)
      have hb1 : badT x5 o (i + 1) = badT x5 o i ++ frec some17[i] := by rw [badT, if_neg c, hrn]
      rw [hb1] at ih1
      have g4 : (badT x5 o i).size + (frec some17[i]).size ≤ 9223372036854775807 := by omega
      refine Ev.step (f := fun k => (sleuthref12_PutRecord.f k some17[i].f0 some17[i].f1 some17[i].f2 some17[i].f3).bind fun bt427 => ((sleuthref12_PutFrame.f k bt427.1).bind fun bt429 => (if (badT x5 o i).size + bt429.1.size ≤ 9223372036854775807 then (sleuthlaw17_FileBad.l0 k w (x5 : Int) (badT x5 o i ++ bt429.1) ((i + 1 : Nat) : Int)) else (none)))) (fun k => ?_) ?_
      · unfold rn at hrn
        rw [sleuthlaw17_FileBad.l0, if_pos g0, if_neg c']
        simp only [some17_eq, Option.bind_some, if_pos g1, if_pos g2, hrn, hw]
      · refine Ev.bind e1 (Ev.bind e2 (evp g4 ?_))
        exact ih1
theorem mod6 (x : Int) : ∃ i : Nat, i ≤ 5 ∧ wrap64 (Int.tmod (IntKind.u64.wrap x) 6) = (i : Int) := by
  have h0 : 0 ≤ IntKind.u64.wrap x ∧ IntKind.u64.wrap x < 18446744073709551616 := by
    show 0 ≤ x % 18446744073709551616 ∧ x % 18446744073709551616 < 18446744073709551616
    omega
  generalize IntKind.u64.wrap x = y at h0
  refine ⟨(y % 6).toNat, by omega, ?_⟩
  rw [Int.tmod_eq_emod_of_nonneg h0.1, w64 (by omega) (by omega)]
  omega
theorem fileBad_pure (a0 a1 : Int) (h0 : (Lit.int .i64 a0).wf = true) (h1 : (Lit.int .i64 a1).wf = true) : ∃ k, sleuthlaw17_FileBad.f k a0 a1 = some true := by
  refine Ev.rounds (g := fun k => sleuthlaw17_FileBad.f k a0 a1) ?_
  unfold sleuthlaw17_FileBad.f
  refine Ev.bind awake17_ev ?_
  refine evp rfl ?_
  obtain ⟨x5, h5, he⟩ := mod6 a1
  rw [he]
  obtain ⟨o, ev, ho, hno⟩ := odd_ev a0 x5 h5
  exact bad_l0 a0 x5 h5 o ho ev hno 5 0 rfl
end Go.Proofs.YtnhmmbgnaogokaaGreatDoor.G
