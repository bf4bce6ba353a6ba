/- Parts of this proof, one behind the other: TFile, RecVals, RecGet, FileVals, TNodes, FileWake. -/
import Derived.Test.YtnhmmbgnaogokaaDoorU9
import Derived.Test.YtnhmmbgnaogokaaDoorU5
import Derived.Test.YtnhmmbgnaogokaaDoorU6
import Derived.Test.YtnhmmbgnaogokaaDoorU7
section
namespace Go.Proofs.YtnhmmbgnaogokaaDoor.G
open Go.RowKit Go.Proofs.YtnhmmbgnaogokaaDoorW.PrintWords Go.Proofs.YtnhmmbgnaogokaaDoorW.PrintLast Go.Proofs.YtnhmmbgnaogokaaDoorW.PrintMore
set_option linter.unusedVariables false
set_option linter.unusedSimpArgs false
/-- a node's frame -/
def frec (x : Nd) : ByteArray := frameOf (recOf x)
/-- a trail's bytes -/
def fileB : List Nd → ByteArray
  | [] => ⟨#[]⟩
  | x :: xs => frec x ++ fileB xs
theorem nil_app (b : ByteArray) : (⟨#[]⟩ : ByteArray) ++ b = b := by
  apply bytesOf_inj
  rw [bytesOf_append]; rfl
theorem app_nil (b : ByteArray) : b ++ (⟨#[]⟩ : ByteArray) = b := by
  apply bytesOf_inj
  rw [bytesOf_append]
  show bytesOf b ++ [] = _
  rw [List.append_nil]
theorem app_assoc (a b c : ByteArray) : (a ++ b) ++ c = a ++ (b ++ c) := by
  apply bytesOf_inj
  rw [bytesOf_append, bytesOf_append, bytesOf_append, bytesOf_append, List.append_assoc]
theorem app_cancel {a b c : ByteArray} (h : a ++ b = a ++ c) : b = c := by
  apply bytesOf_inj
  have := congrArg bytesOf h
  rw [bytesOf_append, bytesOf_append] at this
  exact List.append_cancel_left this
theorem app_inj {a b c d : ByteArray} (h : a ++ b = c ++ d) (hs : a.size = c.size) : a = c ∧ b = d := by
  have := congrArg bytesOf h
  rw [bytesOf_append, bytesOf_append] at this
  have h2 := List.append_inj this (by rw [bytesOf_length, bytesOf_length, hs])
  exact ⟨bytesOf_inj h2.1, bytesOf_inj h2.2⟩
theorem fileB_app (xs ys : List Nd) : fileB (xs ++ ys) = fileB xs ++ fileB ys := by
  induction xs with
  | nil => rw [List.nil_append, fileB, nil_app]
  | cons x xs ih => rw [List.cons_append, fileB, fileB, ih, app_assoc]
theorem fileB_one (x : Nd) : fileB [x] = frec x := by rw [fileB, fileB, app_nil]
theorem recL_size {x : Nd} (h : recS x = true) : (recL x).length ≤ 8192 := by
  have a := eqS_spec (recS_spec h).1
  have e : ∀ l : List ByteArray, (∀ s ∈ l, mayS s = true) → (l.flatMap textL).length ≤ 1026 * l.length := by
    intro l
    induction l with
    | nil => intro _; exact Nat.le_refl _
    | cons s l ih =>
      intro hl
      have h1 := mayS_size (hl s List.mem_cons_self)
      have h2 := ih (fun t ht => hl t (List.mem_cons_of_mem _ ht))
      rw [List.flatMap_cons, List.length_append, List.length_cons]
      have h3 : (textL s).length = 2 + s.size := by unfold textL; rw [List.length_append, lowL_length, bytesOf_length]
      omega
  have h1 := e x.f2 a.2.2.2.1
  have h2 := mayS_size a.2.2.2.2
  unfold recL
  have h3 : (textL x.f3).length = 2 + x.f3.size := by unfold textL; rw [List.length_append, lowL_length, bytesOf_length]
  simp only [List.length_append, lowL_length, h3]
  have := a.2.2.1
  omega
theorem recOf_size {x : Nd} (h : recS x = true) : (recOf x).size ≤ 8192 := by
  have := recL_size h
  unfold recOf
  rw [size_strOfNums]; exact this
theorem frec_size (x : Nd) : (frec x).size = 6 + (recOf x).size := frame_size _
theorem recS_of_next {x : Nd} {i : Int} (h : nextS x i = true) : recS x = true := by
  unfold nextS at h
  unfold recS
  simp only [Bool.and_eq_true, Bool.or_eq_true, decide_eq_true_iff] at h ⊢
  obtain ⟨⟨h1, h2⟩, h3⟩ := h
  exact ⟨h3, by omega, by omega⟩
/-- one node more -/
def stepF (t : ByteArray) (m : Nat) (at_ : Int) : Option (Nd × Int) :=
  if (getF t at_).2.2 = 0 then (if (getR (getF t at_).1).2 = 0 then (if nextS (getR (getF t at_).1).1 (m : Int) = true then some ((getR (getF t at_).1).1, (getF t at_).2.1) else none) else none) else none
theorem stepF_some (a r : ByteArray) (x : Nd) (m : Nat) (h : nextS x (m : Int) = true) : stepF (a ++ (frec x ++ r)) m (a.size : Int) = some (x, (a.size : Int) + (frec x).size) := by
  have hr := recS_of_next h
  have e := get_frame a (recOf x) r (recOf_size hr)
  rw [app_assoc] at e
  have e2 := getR_of hr rfl
  unfold stepF
  show (if (getF (a ++ (frameOf (recOf x) ++ r)) a.size).2.2 = 0 then _ else _) = _
  simp only [frec, e, e2, if_pos, h]
theorem getF_spec {t : ByteArray} {at_ : Int} {s : ByteArray} {to_ : Int} (h : getF t at_ = (s, to_, 0)) : 0 ≤ at_ ∧ at_ ≤ (t.size : Int) ∧ s.size ≤ 8192 ∧ to_ = at_ + (frameOf s).size ∧ to_ ≤ (t.size : Int) ∧ t.extract at_.toNat to_.toNat = frameOf s := by
  unfold getF at h
  have hne : badF ≠ (s, to_, 0) := by unfold badF; intro hh; have := (Prod.mk.inj (Prod.mk.inj hh).2).2; omega
  by_cases c1 : at_ < 0 ∨ at_ > (t.size : Int) ∨ (t.size : Int) - at_ < 6
  · rw [if_pos c1] at h; exact absurd h hne
  rw [if_neg c1] at h
  by_cases c2 : manyAt t at_ > (t.size : Int) - at_ - 6 ∨ manyAt t at_ > 8192
  · rw [if_pos c2] at h; exact absurd h hne
  rw [if_neg c2] at h
  by_cases c3 : frameOf (partOf t at_) = wholeOf t at_
  · rw [if_pos c3] at h
    obtain ⟨rfl, h2⟩ := Prod.mk.inj h
    have h3 := (Prod.mk.inj h2).1
    have m0 : 0 ≤ manyAt t at_ := by
      unfold manyAt
      have h1 := (bt_range t at_).1
      have h2 := (bt_range t (at_ + 1)).1
      omega
    have hps : ((partOf t at_).size : Int) = manyAt t at_ := by
      unfold partOf
      rw [size_extract _ _ _ (by omega)]
      omega
    have hfs := frame_size (partOf t at_)
    refine ⟨by omega, by omega, by omega, by omega, by omega, ?_⟩
    rw [c3]
    unfold wholeOf
    rw [← h3]
  · rw [if_neg c3] at h; exact absurd h hne
theorem split_at (t : ByteArray) (a b : Nat) (h : a ≤ b) (hb : b ≤ t.size) : t = t.extract 0 a ++ (t.extract a b ++ t.extract b t.size) := by
  apply bytesOf_inj
  rw [bytesOf_append, bytesOf_append, bytesOf_extract, bytesOf_extract, bytesOf_extract]
  have hl := bytesOf_length t
  rw [List.take_of_length_le (Nat.le_of_eq hl), List.drop_zero]
  have e : ((bytesOf t).take b).drop a ++ (bytesOf t).drop b = (bytesOf t).drop a := by
    have h1 : (bytesOf t).drop a = ((bytesOf t).take b ++ (bytesOf t).drop b).drop a := by rw [List.take_append_drop]
    rw [h1, List.drop_append_of_le_length (by rw [List.length_take]; omega)]
  rw [e, List.take_append_drop]
theorem stepF_of {t a r : ByteArray} {m : Nat} {x : Nd} {to_ : Int} (ht : t = a ++ r) (h : stepF t m (a.size : Int) = some (x, to_)) : nextS x (m : Int) = true ∧ to_ = (a.size : Int) + (frec x).size ∧ ∃ r', r = frec x ++ r' := by
  unfold stepF at h
  by_cases c1 : (getF t (a.size : Int)).2.2 = 0
  case neg => rw [if_neg c1] at h; cases h
  rw [if_pos c1] at h
  by_cases c2 : (getR (getF t (a.size : Int)).1).2 = 0
  case neg => rw [if_neg c2] at h; cases h
  rw [if_pos c2] at h
  by_cases c3 : nextS (getR (getF t (a.size : Int)).1).1 (m : Int) = true
  case neg => rw [if_neg c3] at h; cases h
  rw [if_pos c3] at h
  obtain ⟨hx, hto⟩ := Prod.mk.inj (Option.some.inj h)
  rw [hx] at c3
  have hg : getF t (a.size : Int) = ((getF t (a.size : Int)).1, (getF t (a.size : Int)).2.1, 0) := by rw [← c1]
  obtain ⟨g0, g1, g2, g3, g4, g5⟩ := getF_spec hg
  have hs : recOf x = (getF t (a.size : Int)).1 := by
    generalize (getF t (a.size : Int)).1 = s at c2 hx
    unfold getR at c2 hx
    by_cases c4 : recS (getP (bytesOf s)) = true ∧ recOf (getP (bytesOf s)) = s
    · rw [if_pos c4] at hx
      rw [← hx]
      exact c4.2
    · rw [if_neg c4] at c2
      exact absurd c2 (by decide)
  rw [← hs] at g3 g5
  rw [hto] at g3 g4 g5
  refine ⟨c3, g3, t.extract to_.toNat t.size, ?_⟩
  have hfr : frameOf (recOf x) = frec x := rfl
  rw [hfr] at g3 g5
  have e := split_at t a.size to_.toNat (by omega) (by omega)
  rw [Int.toNat_natCast] at g5
  rw [g5] at e
  have e2 : t.extract 0 a.size = a := by
    apply bytesOf_inj
    rw [bytesOf_extract, ht, bytesOf_append, List.drop_zero, List.take_append_of_le_length (by rw [bytesOf_length]; omega), List.take_of_length_le (by rw [bytesOf_length]; omega)]
  rw [e2] at e
  exact app_cancel (ht.symm.trans e)
/-- nodes that may stand where they stand -/
def validS (xs : List Nd) : Prop := ∀ (i : Nat) (h : i < xs.length), nextS xs[i] (i : Int) = true
theorem valid_len {xs : List Nd} (h : validS xs) : xs.length ≤ 512 := by
  rcases Nat.lt_or_ge 512 xs.length with c | c
  · exact absurd (nextS_512 (h 512 c)) (by decide)
  · exact c
theorem valid_snoc {xs : List Nd} {x : Nd} (h : validS xs) (hx : nextS x (xs.length : Int) = true) : validS (xs ++ [x]) := by
  intro i hi
  rw [List.length_append, List.length_singleton] at hi
  by_cases c : i < xs.length
  · rw [List.getElem_append_left c]; exact h i c
  · have e : i = xs.length := by omega
    subst e
    rw [List.getElem_append_right (Nat.le_refl _)]
    simpa using hx
theorem valid_left {xs ys : List Nd} (h : validS (xs ++ ys)) : validS xs := by
  intro i hi
  have := h i (by rw [List.length_append]; omega)
  rwa [List.getElem_append_left hi] at this
theorem valid_nil : validS [] := fun i h => absurd h (Nat.not_lt_zero _)
theorem mayT_iff (xs : List Nd) : mayT xs = true ↔ (0 < xs.length ∧ validS xs) := by
  unfold mayT validS
  rw [Bool.and_eq_true, decide_eq_true_iff, List.all_eq_true]
  constructor
  · rintro ⟨h1, h2⟩
    refine ⟨h1, fun i hi => ?_⟩
    have := h2 i (List.mem_range.2 hi)
    rwa [rn_eq xs i hi] at this
  · rintro ⟨h1, h2⟩
    refine ⟨h1, fun i hi => ?_⟩
    rw [List.mem_range] at hi
    rw [rn_eq xs i hi]
    exact h2 i hi
/-- what is loaded -/
def loadK (t : ByteArray) : Nat → List Nd → Int → List Nd × Int
  | 0, out, at_ => (out, at_)
  | k + 1, out, at_ => match stepF t out.length at_ with
    | some p => loadK t k (out ++ [p.1]) p.2
    | none => (out, at_)
def loadS (t : ByteArray) : List Nd × Int := loadK t 513 [] 0
theorem loadK_spec (t : ByteArray) : ∀ (k : Nat) (out : List Nd), k + out.length = 513 → validS out → (∃ r, t = fileB out ++ r) →
    validS (loadK t k out ((fileB out).size : Int)).1 ∧ (loadK t k out ((fileB out).size : Int)).2 = ((fileB (loadK t k out ((fileB out).size : Int)).1).size : Int) ∧ (∃ r, t = fileB (loadK t k out ((fileB out).size : Int)).1 ++ r) ∧ stepF t (loadK t k out ((fileB out).size : Int)).1.length (loadK t k out ((fileB out).size : Int)).2 = none := by
  intro k
  induction k with
  | zero =>
    intro out hk hv _
    have := valid_len hv
    omega
  | succ k ih =>
    intro out hk hv hr
    rw [loadK]
    cases hs : stepF t out.length ((fileB out).size : Int) with
    | none => exact ⟨hv, rfl, hr, hs⟩
    | some p =>
      obtain ⟨x, to_⟩ := p
      obtain ⟨r, hr⟩ := hr
      obtain ⟨h1, h2, r', h3⟩ := stepF_of hr hs
      have e : fileB (out ++ [x]) = fileB out ++ frec x := by rw [fileB_app, fileB_one]
      have e2 : to_ = ((fileB (out ++ [x])).size : Int) := by rw [e, ByteArray.size_append, h2]; omega
      simp only
      rw [e2]
      exact ih (out ++ [x]) (by rw [List.length_append, List.length_singleton]; omega) (valid_snoc hv h1) ⟨r', by rw [e, app_assoc, ← h3]; exact hr⟩
theorem loadS_spec (t : ByteArray) : validS (loadS t).1 ∧ (loadS t).2 = ((fileB (loadS t).1).size : Int) ∧ (∃ r, t = fileB (loadS t).1 ++ r) ∧ stepF t (loadS t).1.length (loadS t).2 = none :=
  loadK_spec t 513 [] rfl valid_nil ⟨t, by rw [fileB, nil_app]⟩
theorem loadK_grow (t : ByteArray) : ∀ (k : Nat) (out : List Nd) (at_ : Int), ∃ zs, (loadK t k out at_).1 = out ++ zs
  | 0, out, _ => ⟨[], (List.append_nil _).symm⟩
  | k + 1, out, at_ => by
    rw [loadK]
    cases stepF t out.length at_ with
    | none => exact ⟨[], (List.append_nil _).symm⟩
    | some p =>
      obtain ⟨zs, h⟩ := loadK_grow t k (out ++ [p.1]) p.2
      exact ⟨p.1 :: zs, by simp only; rw [h, List.append_assoc]; rfl⟩
theorem loadK_through (t : ByteArray) : ∀ (ys : List Nd) (k : Nat) (out : List Nd) (r : ByteArray), validS (out ++ ys) → t = fileB out ++ (fileB ys ++ r) → loadK t (k + ys.length) out ((fileB out).size : Int) = loadK t k (out ++ ys) ((fileB (out ++ ys)).size : Int)
  | [], k, out, r, _, _ => by rw [List.append_nil]; rfl
  | y :: ys, k, out, r, hv, ht => by
    have hn : nextS y (out.length : Int) = true := by
      have := hv out.length (by rw [List.length_append, List.length_cons]; omega)
      rw [List.getElem_append_right (Nat.le_refl _)] at this
      simpa using this
    rw [fileB, app_assoc] at ht
    have hs := stepF_some (fileB out) (fileB ys ++ r) y out.length hn
    rw [← ht] at hs
    have e : fileB (out ++ [y]) = fileB out ++ frec y := by rw [fileB_app, fileB_one]
    rw [List.length_cons, ← Nat.add_assoc, loadK, hs]
    simp only
    have e2 : ((fileB out).size : Int) + (frec y).size = ((fileB (out ++ [y])).size : Int) := by rw [e, ByteArray.size_append]; omega
    rw [e2, loadK_through t ys k (out ++ [y]) r (by rw [List.append_assoc]; exact hv) (by rw [e, app_assoc]; exact ht), List.append_assoc]
    rfl
/-- nodes that stand ahead are all loaded -/
theorem loadS_max {t r : ByteArray} {ys : List Nd} (hv : validS ys) (ht : t = fileB ys ++ r) : ∃ zs, (loadS t).1 = ys ++ zs := by
  have hl := valid_len hv
  have e := loadK_through t ys (513 - ys.length) [] r (by simpa using hv) (by rw [fileB, nil_app]; exact ht)
  rw [Nat.sub_add_cancel (by omega), List.nil_append] at e
  obtain ⟨zs, hz⟩ := loadK_grow t (513 - ys.length) ys ((fileB ys).size : Int)
  exact ⟨zs, by unfold loadS; rw [show ((0 : Int)) = ((fileB []).size : Int) from rfl, e]; exact hz⟩
theorem fileB_pos {x : Nd} {xs : List Nd} : 6 ≤ (fileB (x :: xs)).size := by
  rw [fileB, ByteArray.size_append, frec_size]; omega
theorem loadS_eq {t r : ByteArray} {ys : List Nd} (hv : validS ys) (ht : t = fileB ys ++ r) (hn : stepF t ys.length ((fileB ys).size : Int) = none) : loadS t = (ys, ((fileB ys).size : Int)) := by
  have hl := valid_len hv
  have e := loadK_through t ys (513 - ys.length) [] r (by simpa using hv) (by rw [fileB, nil_app]; exact ht)
  rw [Nat.sub_add_cancel (by omega), List.nil_append] at e
  obtain ⟨j, hj⟩ : ∃ j, 513 - ys.length = j + 1 := ⟨512 - ys.length, by omega⟩
  unfold loadS
  rw [show ((0 : Int)) = ((fileB []).size : Int) from rfl, e, hj, loadK, hn]
theorem stepF_short {t : ByteArray} {m : Nat} {at_ : Int} (h : (t.size : Int) - at_ < 6) : stepF t m at_ = none := by
  have hg : getF t at_ = badF := by unfold getF; exact if_pos (.inr (.inr h))
  unfold stepF
  rw [hg]
  exact if_neg (by decide)
theorem stepF_end {t : ByteArray} {m : Nat} : stepF t m (t.size : Int) = none := stepF_short (by omega)
/-- a file is loaded whole -/
theorem loadS_file {ns : List Nd} (hv : validS ns) : loadS (fileB ns) = (ns, ((fileB ns).size : Int)) :=
  loadS_eq (r := ⟨#[]⟩) hv (app_nil _).symm stepF_end
theorem recLow_l0 (x : Int) (m : Nat) (hm : m ≤ 7) (n : Nat) : ∀ (l : List Int) (j : Nat), j + n = m → l.length = m → (∀ i, i < j → l[i]? = some (x / 256 ^ i % 256)) → Ev (fun k => record_low.l0 k x l (m : Int) (j : Int)) (strOfNums (lowL m x)) := by
  induction n with
  | zero =>
    intro l j hj hl h
    refine Ev.step (f := fun _ => some (strOfNums l)) (fun k => ?_) ?_
    · simp only [record_low.l0]
      rw [if_neg (by omega)]
    · have e : l = lowL m x := by
        apply List.ext_getElem?
        intro i
        by_cases hi : i < m
        · rw [h i (by omega), lowL_get m x i hi]
        · rw [List.getElem?_eq_none (by omega), List.getElem?_eq_none (by rw [lowL_length]; omega)]
      rw [e]
      exact Ev.now _
  | succ n ih =>
    intro l j hj hl h
    have hw : wrap64 ((j : Int) + 1) = ((j + 1 : Nat) : Int) := by rw [w64 (by omega) (by omega)]; omega
    have hw8 : wrap64 (8 * (j : Int)) = 8 * (j : Int) := w64 (by omega) (by omega)
    refine Ev.step (f := fun k => record_low.l0 k x (l.set (j : Int).toNat ((shr .i64 x (8 * (j : Int))) % 256)) (m : Int) ((j + 1 : Nat) : Int)) (fun k => ?_) ?_
    · simp only [record_low.l0]
      rw [if_pos (by omega), hw8, if_pos (by omega), if_pos (by omega), if_pos (by omega), hw]
    · refine ih _ (j + 1) (by omega) (by rw [List.length_set]; exact hl) ?_
      intro i hi
      rw [Int.toNat_natCast]
      by_cases e : i = j
      · subst e
        rw [List.getElem?_set_self (by omega)]
        congr 2
        unfold shr
        have e1 : (8 * (i : Int)).toNat = 8 * i := by omega
        rw [e1, Nat.min_eq_left (by simp only [IntKind.bits]; omega), Int.pow_mul, show (2 : Int) ^ 8 = 256 from rfl]
      · rw [List.getElem?_set_ne (by omega)]
        exact h i (by omega)
theorem recLow_ev (x : Int) (m : Nat) (hm : m ≤ 7) : Ev (fun k => record_low.f k x (m : Int)) (strOfNums (lowL m x)) := by
  have h := recLow_l0 x m hm m (List.replicate m 0) 0 (by omega) (by simp) (by intro i hi; omega)
  refine Ev.congr (fun k => ?_) h
  unfold record_low.f
  rw [if_pos (by omega), if_pos (by omega), Int.toNat_natCast]
  simp only [Option.bind_some, List.length_replicate]
  rfl
theorem textL_str (s : ByteArray) : strOfNums (lowL 2 (s.size : Int)) ++ s = strOfNums (textL s) := by
  unfold textL
  rw [strOfNums_append, strOfNums_bytesOf]
theorem recText_ev (s : ByteArray) (hs : s.size ≤ 1024) : Ev (fun k => record_text.f k s) (strOfNums (textL s)) := by
  unfold record_text.f
  refine Ev.bind (recLow_ev (s.size : Int) 2 (by omega)) ?_
  have hl : (strOfNums (lowL 2 (s.size : Int))).size = 2 := by rw [size_strOfNums, lowL_length]
  simp only [hl, if_pos (show 2 + s.size ≤ 9223372036854775807 by omega), textL_str]
  exact Ev.now _
theorem textL_length (s : ByteArray) : (textL s).length = 2 + s.size := by
  unfold textL
  rw [List.length_append, lowL_length, bytesOf_length]
def headOf (x : Nd) : List Int := lowL 1 x.f0 ++ (lowL 2 (x.f1 + 1) ++ lowL 1 (x.f2.length : Int))
theorem flat_length : ∀ l : List ByteArray, (∀ s ∈ l, s.size ≤ 1024) → (l.flatMap textL).length ≤ 1026 * l.length
  | [], _ => Nat.le_refl _
  | s :: l, h => by
    have := flat_length l (fun x hx => h x (List.mem_cons_of_mem _ hx))
    have hs := h s (List.mem_cons_self ..)
    rw [List.flatMap_cons, List.length_append, textL_length, List.length_cons]
    omega
theorem put_l0 (x : Nd) (h : recS x = true) : ∀ (n i : Nat), i + n = x.f2.length → Ev (fun k => record_Put.l0 k (strOfNums (headOf x ++ (x.f2.take i).flatMap textL)) (i : Int) x.f2 x.f3) (recOf x, 0) := by
  obtain ⟨e, _, _⟩ := recS_spec h
  obtain ⟨_, _, q2, q3, q4⟩ := eqS_spec e
  have hz : ∀ i, (strOfNums (headOf x ++ (x.f2.take i).flatMap textL)).size ≤ 4000 := fun i => by
    have := flat_length (x.f2.take i) (fun s hs => mayS_size (q3 s (List.mem_of_mem_take hs)))
    have h2 : (x.f2.take i).length ≤ 3 := by rw [List.length_take]; omega
    rw [size_strOfNums, List.length_append]
    have h3 : (headOf x).length = 4 := by unfold headOf; rw [List.length_append, List.length_append, lowL_length, lowL_length, lowL_length]
    omega
  intro n
  induction n with
  | zero =>
    intro i hi
    have hs3 := mayS_size q4
    have hr := recText_ev x.f3 hs3
    have e1 : (strOfNums (textL x.f3)).size = 2 + x.f3.size := by rw [size_strOfNums, textL_length]
    refine Ev.step (f := fun k => (record_text.f k x.f3).bind fun t => (if (strOfNums (headOf x ++ (x.f2.take i).flatMap textL)).size + t.size ≤ 9223372036854775807 then some (strOfNums (headOf x ++ (x.f2.take i).flatMap textL) ++ t, 0) else none)) (fun k => by rw [record_Put.l0, if_neg (by omega)]) ?_
    refine Ev.bind hr ?_
    simp only [if_pos (show (strOfNums (headOf x ++ (x.f2.take i).flatMap textL)).size + (strOfNums (textL x.f3)).size ≤ 9223372036854775807 by have := hz i; omega)]
    have e2 : strOfNums (headOf x ++ (x.f2.take i).flatMap textL) ++ strOfNums (textL x.f3) = recOf x := by
      rw [← strOfNums_append, List.take_of_length_le (by omega)]
      unfold recOf recL headOf
      rw [List.append_assoc]
    rw [e2]
    exact Ev.now _
  | succ n ih =>
    intro i hi
    have hlt : i < x.f2.length := by omega
    have hw : wrap64 ((i : Int) + 1) = ((i + 1 : Nat) : Int) := by rw [w64 (by omega) (by omega)]; omega
    have hrd : rdOf ByteArray.empty x.f2 (i : Int) = x.f2[i] := by
      show x.f2.getD _ _ = _
      rw [Int.toNat_natCast, List.getD_eq_getElem?_getD, List.getElem?_eq_getElem hlt]; rfl
    have hsz := mayS_size (q3 _ (List.getElem_mem hlt))
    have e1 : (strOfNums (textL x.f2[i])).size = 2 + x.f2[i].size := by rw [size_strOfNums, textL_length]
    refine Ev.step (f := fun k => (record_text.f k x.f2[i]).bind fun t => (if (strOfNums (headOf x ++ (x.f2.take i).flatMap textL)).size + t.size ≤ 9223372036854775807 then record_Put.l0 k (strOfNums (headOf x ++ (x.f2.take i).flatMap textL) ++ t) ((i + 1 : Nat) : Int) x.f2 x.f3 else none)) (fun k => by rw [record_Put.l0, if_pos (by omega), if_pos (by omega), hrd, hw]) ?_
    refine Ev.bind (recText_ev _ hsz) ?_
    simp only [if_pos (show (strOfNums (headOf x ++ (x.f2.take i).flatMap textL)).size + (strOfNums (textL x.f2[i])).size ≤ 9223372036854775807 by have := hz i; omega)]
    have e2 : strOfNums (headOf x ++ (x.f2.take i).flatMap textL) ++ strOfNums (textL x.f2[i]) = strOfNums (headOf x ++ (x.f2.take (i + 1)).flatMap textL) := by
      rw [← strOfNums_append, List.take_succ_eq_append_getElem hlt, List.flatMap_append, List.append_assoc]
      simp only [List.flatMap_cons, List.flatMap_nil, List.append_nil]
    rw [e2]
    exact ih (i + 1) (by omega)
theorem putRec_ev (x : Nd) (hp0 : -9223372036854775808 ≤ x.f1) (hp1 : x.f1 ≤ 9223372036854775807) : Ev (fun k => record_Put.f k x.f0 x.f1 x.f2 x.f3) (putR x) := by
  unfold record_Put.f putR recS
  refine Ev.bind (equation_ev x) ?_
  cases he : eqS x with
  | false => simp only [if_neg Bool.false_ne_true, Bool.false_and]; exact Ev.now _
  | true =>
    simp only [if_pos, Bool.true_and]
    by_cases c1 : x.f1 < -1
    · rw [decide_eq_false (show ¬ -1 ≤ x.f1 by omega), Bool.false_and]
      simp only [if_pos c1, if_neg Bool.false_ne_true]; exact Ev.now _
    · rw [decide_eq_true (show -1 ≤ x.f1 by omega), Bool.true_and]
      by_cases c2 : x.f1 ≥ 512
      · rw [decide_eq_false (show ¬ x.f1 < 512 by omega)]
        simp only [if_neg c1, if_pos c2, if_neg Bool.false_ne_true]; exact Ev.now _
      · have c3 : x.f1 < 512 := by omega
        rw [decide_eq_true c3]
        simp only [if_neg c1, if_neg c2, if_pos]
        have hrs : recS x = true := by
          unfold recS
          rw [he, decide_eq_true (show -1 ≤ x.f1 by omega), decide_eq_true c3]; rfl
        obtain ⟨_, _, q2, _, _⟩ := eqS_spec he
        have hw : wrap64 (x.f1 + 1) = x.f1 + 1 := w64 (by omega) (by omega)
        unfold record_Put.m
        rw [hw]
        have s1 : (strOfNums (lowL 1 x.f0)).size = 1 := by rw [size_strOfNums, lowL_length]
        have s2 : (strOfNums (lowL 2 (x.f1 + 1))).size = 2 := by rw [size_strOfNums, lowL_length]
        have s3 : (strOfNums (lowL 1 (x.f2.length : Int))).size = 1 := by rw [size_strOfNums, lowL_length]
        refine Ev.bind (recLow_ev x.f0 1 (by omega)) (Ev.bind (recLow_ev (x.f1 + 1) 2 (by omega)) ?_)
        simp only [s1, s2, if_pos (show 1 + 2 ≤ 9223372036854775807 by omega)]
        refine Ev.bind (recLow_ev (x.f2.length : Int) 1 (by omega)) ?_
        simp only [ByteArray.size_append, s1, s2, s3, if_pos (show 1 + 2 + 1 ≤ 9223372036854775807 by omega)]
        have h0 := put_l0 x hrs x.f2.length 0 (by omega)
        have e0 : strOfNums (headOf x ++ (x.f2.take 0).flatMap textL) = (strOfNums (lowL 1 x.f0) ++ strOfNums (lowL 2 (x.f1 + 1))) ++ strOfNums (lowL 1 (x.f2.length : Int)) := by
          rw [List.take_zero, List.flatMap_nil, List.append_nil]
          unfold headOf
          rw [strOfNums_append, strOfNums_append, ByteArray.append_assoc]
        rw [e0] at h0
        exact h0
theorem take_min (L : List Int) (a : Nat) : L.take (min a L.length) = L.take a := by
  by_cases h : a ≤ L.length
  · rw [Nat.min_eq_left h]
  · rw [Nat.min_eq_right (by omega), List.take_of_length_le (Nat.le_refl _), List.take_of_length_le (by omega)]
theorem drop_min (L : List Int) (a : Nat) : L.drop (min a L.length) = L.drop a := by
  by_cases h : a ≤ L.length
  · rw [Nat.min_eq_left h]
  · rw [Nat.min_eq_right (by omega), List.drop_eq_nil_of_le (Nat.le_refl _), List.drop_eq_nil_of_le (by omega)]
theorem ext_take (s : ByteArray) (a : Nat) : bytesOf (s.extract 0 (min a s.size)) = (bytesOf s).take a := by
  rw [bytesOf_extract, List.drop_zero, ← bytesOf_length s, take_min]
theorem ext_drop (s : ByteArray) (a : Nat) : bytesOf (s.extract (min a s.size) s.size) = (bytesOf s).drop a := by
  rw [bytesOf_extract, ← bytesOf_length s, List.take_of_length_le (Nat.le_refl _), drop_min]
theorem takeB (s : ByteArray) (a : Nat) : ∃ t r, record_taker_take.f s (a : Int) = some (t, r) ∧ bytesOf t = (bytesOf s).take a ∧ bytesOf r = (bytesOf s).drop a := by
  refine ⟨s.extract 0 (min a s.size), s.extract (min a s.size) s.size, ?_, ext_take s a, ext_drop s a⟩
  have hm : mn (a : Int) (s.size : Int) = ((min a s.size : Nat) : Int) := by
    unfold mn
    split <;> omega
  have hz : (s.extract 0 (min a s.size)).size = min a s.size := by
    have := congrArg List.length (ext_take s a)
    rw [bytesOf_length, List.length_take, bytesOf_length] at this
    exact this
  have h1 : ((min a s.size : Nat) : Int) ≤ (s.size : Int) := by omega
  unfold record_taker_take.f
  rw [hm, Int.toNat_natCast, hz, if_pos (by omega), if_pos h1, if_pos (by omega), if_pos h1, Int.toNat_natCast]
theorem numB (s : ByteArray) (a : Nat) (ha : a ≤ 2) : ∃ r, (∀ k, record_taker_number.f k s (a : Int) = some (numLE ((bytesOf s).take a), r)) ∧ bytesOf r = (bytesOf s).drop a := by
  obtain ⟨t, r, h1, h2, h3⟩ := takeB s a
  refine ⟨r, fun k => ?_, h3⟩
  have hz : t.size ≤ 2 := by
    have := congrArg List.length h2
    rw [bytesOf_length, List.length_take] at this
    omega
  unfold record_taker_number.f
  rw [h1]
  simp only [Option.bind_some, if_pos hz, h2]
theorem num_rng (L : List Int) (h : ∀ y ∈ L, 0 ≤ y ∧ y < 256) (a : Nat) (ha : a ≤ 2) : 0 ≤ numLE (L.take a) ∧ numLE (L.take a) < 65536 := by
  obtain ⟨h0, h1⟩ := numLE_range (L.take a) (fun y hy => h y (List.mem_of_mem_take hy))
  refine ⟨h0, Int.lt_of_lt_of_le h1 ?_⟩
  have hl : (L.take a).length ≤ 2 := by rw [List.length_take]; omega
  have : (L.take a).length = 0 ∨ (L.take a).length = 1 ∨ (L.take a).length = 2 := by omega
  rcases this with e | e | e <;> rw [e] <;> decide
theorem textB (s : ByteArray) : ∃ r, (∀ k, record_taker_text.f k s = some ((textP (bytesOf s)).1, r)) ∧ bytesOf r = (textP (bytesOf s)).2 := by
  obtain ⟨q, h1, h2⟩ := numB s 2 (by omega)
  obtain ⟨n0, n1⟩ := num_rng (bytesOf s) (bytesOf_range s) 2 (by omega)
  obtain ⟨t, r, g1, g2, g3⟩ := takeB q (numLE ((bytesOf s).take 2)).toNat
  rw [h2] at g2 g3
  have e : ((numLE ((bytesOf s).take 2)).toNat : Int) = numLE ((bytesOf s).take 2) := by omega
  rw [e] at g1
  refine ⟨r, fun k => ?_, g3⟩
  have h1' := h1 k
  unfold record_taker_text.f
  rw [show ((2 : Nat) : Int) = 2 from rfl] at h1'
  rw [h1']
  simp only [Option.bind_some, g1]
  have et : t = (textP (bytesOf s)).1 := by
    unfold textP
    rw [← g2, strOfNums_bytesOf]
  rw [et]
theorem argsB : ∀ (n x m : Nat) (l : List ByteArray) (s : ByteArray), x + n = m → m ≤ 3 → l.length = x → ∃ r, Ev (fun k => record_Get.l0 k (m : Int) (x : Int) l s) (l ++ (argsP n (bytesOf s)).1, r) ∧ bytesOf r = (argsP n (bytesOf s)).2
  | 0, x, m, l, s, hx, hm, hl => ⟨s, Ev.step (f := fun _ => some (l, s)) (fun k => by rw [record_Get.l0, if_neg (by omega)]) (by rw [argsP, List.append_nil]; exact Ev.now _), rfl⟩
  | n + 1, x, m, l, s, hx, hm, hl => by
    obtain ⟨q, h1, h2⟩ := textB s
    obtain ⟨r, g1, g2⟩ := argsB n (x + 1) m (l ++ [(textP (bytesOf s)).1]) q (by omega) hm (by rw [List.length_append, hl]; rfl)
    rw [h2] at g1 g2
    refine ⟨r, ?_, by rw [argsP]; exact g2⟩
    have hw : wrap64 ((x : Int) + 1) = ((x + 1 : Nat) : Int) := by rw [w64 (by omega) (by omega)]; omega
    refine Ev.step (f := fun k => record_Get.l0 k (m : Int) ((x + 1 : Nat) : Int) (l ++ [(textP (bytesOf s)).1]) q) (fun k => by rw [record_Get.l0, if_pos (by omega), h1 k]; simp only [Option.bind_some]; rw [if_pos (by omega), hw]) ?_
    rw [argsP]
    rw [List.append_assoc] at g1
    exact g1
def flatR (p : Nd × Int) : Int × Int × List ByteArray × ByteArray × Int := (p.1.f0, p.1.f1, p.1.f2, p.1.f3, p.2)
theorem getRec_ev (s : ByteArray) : Ev (fun k => record_Get.f k s) (flatR (getR s)) := by
  obtain ⟨s1, a1, b1⟩ := numB s 1 (by omega)
  obtain ⟨s2, a2, b2⟩ := numB s1 2 (by omega)
  obtain ⟨s3, a3, b3⟩ := numB s2 1 (by omega)
  rw [b1] at a2 b2
  rw [b2, List.drop_drop] at a3 b3
  rw [List.drop_drop] at b3
  have hr := bytesOf_range s
  have hr1 : ∀ n, ∀ y ∈ (bytesOf s).drop n, 0 ≤ y ∧ y < 256 := fun n y hy => hr y (List.mem_of_mem_drop hy)
  have n1 := num_rng _ (hr1 1) 2 (by omega)
  have n3 := num_rng _ (hr1 3) 1 (by omega)
  have hmany : mn (numLE (((bytesOf s).drop 3).take 1)) 3 = ((manyP (bytesOf s)).toNat : Int) ∧ (manyP (bytesOf s)).toNat ≤ 3 := by
    unfold mn manyP
    generalize numLE (((bytesOf s).drop 3).take 1) = v at n3
    split <;> split <;> omega
  obtain ⟨q, g1, g2⟩ := argsB (manyP (bytesOf s)).toNat 0 (manyP (bytesOf s)).toNat [] s3 (Nat.zero_add _) hmany.2 rfl
  rw [b3, List.nil_append] at g1
  rw [b3] at g2
  obtain ⟨z, h1, h2⟩ := textB q
  rw [g2] at h1
  have hw : wrap64 (numLE (((bytesOf s).drop 1).take 2) - 1) = numLE (((bytesOf s).drop 1).take 2) - 1 := w64 (by omega) (by omega)
  have hp := putRec_ev (getP (bytesOf s)) (by show _ ≤ numLE (((bytesOf s).drop 1).take 2) - 1; omega) (by show numLE (((bytesOf s).drop 1).take 2) - 1 ≤ _; omega)
  unfold record_Get.f
  refine Ev.bind (Ev.congr (fun k => a1 k) (Ev.now _)) (Ev.bind (Ev.congr (fun k => a2 k) (Ev.now _)) (Ev.bind (Ev.congr (fun k => a3 k) (Ev.now _)) ?_))
  simp only [hmany.1]
  refine Ev.bind g1 (Ev.bind (Ev.congr (fun k => h1 k) (Ev.now _)) ?_)
  simp only [hw]
  refine Ev.bind hp ?_
  unfold getR putR flatR
  by_cases c : recS (getP (bytesOf s)) = true
  · simp only [if_pos c, if_pos, toList_inj]
    by_cases d : recOf (getP (bytesOf s)) = s
    · simp only [if_pos d, c, d, and_self, if_true]; exact Ev.now _
    · simp only [if_neg d, d, and_false, if_false]; exact Ev.now _
  · have g : ¬ (1500 : Int) = 0 := by decide
    simp only [if_neg c, if_neg g, c, false_and, if_false]; exact Ev.now _
def textS (ns : List Nd) : ByteArray × Int := if mayT ns = true then (if 65536 < (fileB ns).size then (⟨#[]⟩, 1700) else (fileB ns, 0)) else (⟨#[]⟩, 1700)
theorem fileB_take (ns : List Nd) (i : Nat) : fileB ns = fileB (ns.take i) ++ fileB (ns.drop i) := by rw [← fileB_app, List.take_append_drop]
theorem text_l0 (ns : List Nd) (hv : validS ns) : ∀ (n i : Nat), i + n = ns.length → (fileB (ns.take i)).size ≤ 65536 → Ev (fun k => file_Text.l0 k ns (fileB (ns.take i)) (i : Int)) (if 65536 < (fileB ns).size then ((⟨#[]⟩ : ByteArray), (1700 : Int)) else (fileB ns, 0)) := by
  intro n
  induction n with
  | zero =>
    intro i hi hs
    rw [List.take_of_length_le (by omega)] at hs ⊢
    rw [if_neg (by omega)]
    refine Ev.step (f := fun _ => some (fileB ns, 0)) (fun k => ?_) (Ev.now _)
    rw [file_Text.l0, if_neg (by omega)]
  | succ n ih =>
    intro i hi hs
    have hlt : i < ns.length := by omega
    have hx := hv i hlt
    have hr := recS_of_next hx
    have hr2 := recS_spec hr
    have e1 := putRec_ev ns[i] (by omega) (by omega)
    have e2 := put_ev (recOf ns[i])
    have hp : putR ns[i] = (recOf ns[i], 0) := by unfold putR; rw [if_pos hr]
    have hf : putF (recOf ns[i]) = (frec ns[i], 0) := putF_small _ (recOf_size hr)
    rw [hp] at e1
    rw [hf] at e2
    have c1 : (i : Int) < (ns.length : Int) := by omega
    have hz := frec_size ns[i]
    have hz2 := recOf_size hr
    have c2 : (fileB (ns.take i)).size + (frec ns[i]).size ≤ 140737488355328 := by omega
    have eT : fileB (ns.take i) ++ frec ns[i] = fileB (ns.take (i + 1)) := by rw [List.take_succ_eq_append_getElem hlt, fileB_app, fileB_one]
    have eN : (i : Int) + 1 = ((i + 1 : Nat) : Int) := by omega
    refine Ev.step (f := fun k => (record_Put.f k ns[i].f0 ns[i].f1 ns[i].f2 ns[i].f3).bind fun s => (frame_Put.f k s.1).bind fun t => if (fileB (ns.take i)).size + t.1.size ≤ 140737488355328 then (if (65536 : Int) < (((fileB (ns.take i)) ++ t.1).size : Int) then some ((⟨#[]⟩ : ByteArray), (1700 : Int)) else file_Text.l0 k ns ((fileB (ns.take i)) ++ t.1) ((i : Int) + 1)) else none) (fun k => ?_) ?_
    · rw [file_Text.l0, if_pos c1]
      have := rn_eq ns i hlt
      unfold rn at this
      rw [this]
    · refine Ev.bind e1 (Ev.bind e2 ?_)
      simp only [if_pos c2, eT, eN]
      by_cases c3 : (65536 : Int) < ((fileB (ns.take (i + 1))).size : Int)
      · simp only [if_pos c3]
        have : 65536 < (fileB ns).size := by
          rw [fileB_take ns (i + 1), ByteArray.size_append]; omega
        rw [if_pos this]
        exact Ev.now _
      · simp only [if_neg c3]
        exact ih (i + 1) (by omega) (by omega)
theorem text_ev (ns : List Nd) : Ev (fun k => file_Text.f k ns) (textS ns) := by
  unfold file_Text.f textS
  refine Ev.bind (trailMay_ev ns) ?_
  by_cases c : mayT ns = true
  · simp only [c, if_pos]
    exact text_l0 ns ((mayT_iff ns).1 c).2 ns.length 0 (by omega) (by rw [List.take_zero]; decide)
  · rw [if_neg c]
    simp only [if_neg c]
    exact Ev.now _
/-! what is loaded -/
def framesK (t : ByteArray) : Nat → Int → List (ByteArray × Int)
  | 0, _ => []
  | n + 1, at_ => if (getF t at_).2.2 = 0 then ((getF t at_).1, (getF t at_).2.1) :: framesK t n (getF t at_).2.1 else []
theorem getF_next {t : ByteArray} {at_ : Int} (h : (getF t at_).2.2 = 0) : 0 ≤ at_ ∧ at_ + 6 ≤ (getF t at_).2.1 ∧ (getF t at_).2.1 ≤ (t.size : Int) := by
  have hg : getF t at_ = ((getF t at_).1, (getF t at_).2.1, 0) := by rw [← h]
  obtain ⟨h0, h1, h2, h3, h4, _⟩ := getF_spec hg
  have := frame_size (getF t at_).1
  exact ⟨h0, by omega, h4⟩
theorem frames_ev (t : ByteArray) (ht : t.size ≤ 65536) : ∀ (n : Nat) (at_ : Int), 0 ≤ at_ → at_ ≤ (t.size : Int) → (t.size : Int) - at_ < n → Ev (fun k => file_Load.frames k t at_) (framesK t n at_)
  | 0, at_, h0, h1, h2 => absurd h2 (by omega)
  | n + 1, at_, h0, h1, h2 => by
    have e := get_ev t at_ (by omega) (by omega) (by omega)
    refine Ev.step (f := fun k => (frame_Get.f k t at_).bind fun g => if g.2.2 = 0 then (file_Load.frames k t g.2.1).bind fun r => some ((g.1, g.2.1) :: r) else some []) (fun k => by rw [file_Load.frames]) ?_
    refine Ev.bind e ?_
    rw [framesK]
    by_cases c : (getF t at_).2.2 = 0
    · simp only [if_pos c]
      obtain ⟨g0, g1, g2⟩ := getF_next c
      exact Ev.bind (frames_ev t ht n _ (by omega) g2 (by omega)) (Ev.now _)
    · simp only [if_neg c]
      exact Ev.now _
theorem framesK_len (t : ByteArray) : ∀ (n : Nat) (at_ : Int), 0 ≤ at_ → at_ ≤ (t.size : Int) → ((framesK t n at_).length : Int) * 6 + at_ ≤ (t.size : Int)
  | 0, at_, h0, h1 => by rw [framesK]; simpa using h1
  | n + 1, at_, h0, h1 => by
    rw [framesK]
    by_cases c : (getF t at_).2.2 = 0
    · rw [if_pos c, List.length_cons]
      obtain ⟨g0, g1, g2⟩ := getF_next c
      have := framesK_len t n (getF t at_).2.1 (by omega) g2
      omega
    · rw [if_neg c]; simpa using h1
def foldS : List (ByteArray × Int) → List Nd → Int → List Nd × Int
  | [], out, at_ => (out, at_)
  | x :: xs, out, at_ => if (getR x.1).2 = 0 ∧ nextS (getR x.1).1 (out.length : Int) = true then foldS xs (out ++ [(getR x.1).1]) x.2 else (out, at_)
theorem foldS_load (t : ByteArray) : ∀ (n m : Nat) (out : List Nd) (at_ : Int), 0 ≤ at_ → at_ ≤ (t.size : Int) → (t.size : Int) - at_ < n → m + out.length = 513 → foldS (framesK t n at_) out at_ = loadK t m out at_
  | 0, m, out, at_, h0, h1, h2, hm => absurd h2 (by omega)
  | n + 1, m, out, at_, h0, h1, h2, hm => by
    rw [framesK]
    by_cases c : (getF t at_).2.2 = 0
    · rw [if_pos c, foldS]
      obtain ⟨g0, g1, g2⟩ := getF_next c
      by_cases c2 : (getR (getF t at_).1).2 = 0 ∧ nextS (getR (getF t at_).1).1 (out.length : Int) = true
      · rw [if_pos c2]
        have hlt := nextS_512 c2.2
        obtain ⟨m', rfl⟩ : ∃ m', m = m' + 1 := ⟨m - 1, by omega⟩
        have hs : stepF t out.length at_ = some ((getR (getF t at_).1).1, (getF t at_).2.1) := by unfold stepF; rw [if_pos c, if_pos c2.1, if_pos c2.2]
        rw [loadK, hs]
        exact foldS_load t n m' _ _ (by omega) g2 (by omega) (by rw [List.length_append, List.length_singleton]; omega)
      · rw [if_neg c2]
        have hs : stepF t out.length at_ = none := by
          unfold stepF
          rw [if_pos c]
          by_cases c3 : (getR (getF t at_).1).2 = 0
          · rw [if_pos c3, if_neg (fun h => c2 ⟨c3, h⟩)]
          · rw [if_neg c3]
        cases m with
        | zero => rfl
        | succ m => rw [loadK, hs]
    · rw [if_neg c, foldS]
      have hs : stepF t out.length at_ = none := by unfold stepF; rw [if_neg c]
      cases m with
      | zero => rfl
      | succ m => rw [loadK, hs]
theorem ev_range {p : Nat → Nat → Prop} : ∀ (N : Nat), (∀ i, i < N → ∃ K, ∀ k, K ≤ k → p k i) → ∃ K, ∀ k, K ≤ k → ∀ i, i < N → p k i
  | 0, _ => ⟨0, fun _ _ i hi => absurd hi (Nat.not_lt_zero _)⟩
  | N + 1, h => by
    obtain ⟨K1, h1⟩ := ev_range N (fun i hi => h i (by omega))
    obtain ⟨K2, h2⟩ := h N (by omega)
    refine ⟨max K1 K2, fun k hk i hi => ?_⟩
    by_cases c : i = N
    · subst c; exact h2 k (by omega)
    · exact h1 k (by omega) i (by omega)
theorem ev_list {α : Type} {p : Nat → α → Prop} : ∀ (l : List α), (∀ x ∈ l, ∃ K, ∀ k, K ≤ k → p k x) → ∃ K, ∀ k, K ≤ k → ∀ x ∈ l, p k x
  | [], _ => ⟨0, fun _ _ x hx => by cases hx⟩
  | y :: l, h => by
    obtain ⟨K1, h1⟩ := ev_list l (fun x hx => h x (List.mem_cons_of_mem _ hx))
    obtain ⟨K2, h2⟩ := h y List.mem_cons_self
    refine ⟨max K1 K2, fun k hk x hx => ?_⟩
    rcases List.mem_cons.1 hx with rfl | hx
    · exact h2 k (by omega)
    · exact h1 k (by omega) x hx
def known (N k : Nat) (x : ByteArray × Int) : Prop := record_Get.f k x.1 = some (flatR (getR x.1)) ∧ ∀ i : Nat, i < N → trail_Next.f k (getR x.1).1.f0 (getR x.1).1.f1 (getR x.1).1.f2 (getR x.1).1.f3 (i : Int) = some (nextS (getR x.1).1 (i : Int))
theorem known_ev (N : Nat) (x : ByteArray × Int) : ∃ K, ∀ k, K ≤ k → known N k x := by
  obtain ⟨K1, h1⟩ := getRec_ev x.1
  obtain ⟨K2, h2⟩ := ev_range (p := fun k i => trail_Next.f k (getR x.1).1.f0 (getR x.1).1.f1 (getR x.1).1.f2 (getR x.1).1.f3 (i : Int) = some (nextS (getR x.1).1 (i : Int))) N (fun i _ => next_ev (getR x.1).1 (i : Int))
  exact ⟨max K1 K2, fun k hk => ⟨h1 k (by omega), h2 k (by omega)⟩⟩
theorem known_good {N k : Nat} {x : ByteArray × Int} (h : known N k x) : file_Load.good k N x = true := by
  unfold file_Load.good
  rw [h.1]
  refine List.all_eq_true.2 fun i hi => ?_
  have := h.2 i (List.mem_range.1 hi)
  simp only [flatR]
  rw [this]; rfl
theorem fold_known {N k : Nat} : ∀ (ys : List (ByteArray × Int)) (out : List Nd) (at_ : Int), (∀ y ∈ ys, known N k y) → out.length + ys.length ≤ N → file_Load.fold k ys out at_ = foldS ys out at_
  | [], _, _, _, _ => rfl
  | y :: ys, out, at_, h, hl => by
    obtain ⟨h1, h2⟩ := h y List.mem_cons_self
    rw [List.length_cons] at hl
    have h3 := h2 out.length (by omega)
    rw [file_Load.fold, foldS, h1]
    simp only [flatR, h3, Option.some.injEq]
    by_cases c : (getR y.1).2 = 0 ∧ nextS (getR y.1).1 (out.length : Int) = true
    · rw [if_pos c, if_pos c]
      exact fold_known ys _ _ (fun z hz => h z (List.mem_cons_of_mem _ hz)) (by rw [List.length_append, List.length_singleton]; omega)
    · rw [if_neg c, if_neg c]
def cutT (s : ByteArray) : ByteArray := s.extract 0 (min s.size 65536)
def loadT (s : ByteArray) : List Nd × Int := loadS (cutT s)
theorem cutT_size (s : ByteArray) : (cutT s).size = min s.size 65536 := by unfold cutT; rw [size_extract _ _ _ (by omega)]; omega
theorem load_ev (s : ByteArray) : Ev (fun k => file_Load.f k s) (loadT s) := by
  have hz := cutT_size s
  obtain ⟨xs, hxs⟩ : ∃ xs, xs = framesK (cutT s) ((cutT s).size + 1) 0 := ⟨_, rfl⟩
  obtain ⟨K1, h1⟩ := frames_ev (cutT s) (by omega) ((cutT s).size + 1) 0 (by omega) (by omega) (by omega)
  rw [← hxs] at h1
  have hl : xs.length ≤ 65536 := by
    have := framesK_len (cutT s) ((cutT s).size + 1) 0 (by omega) (by omega)
    rw [← hxs] at this
    omega
  obtain ⟨K2, h2⟩ := ev_list xs (p := known xs.length) (fun x _ => known_ev xs.length x)
  refine ⟨max K1 K2, fun k hk => ?_⟩
  have h3 := h2 k (by omega)
  have h4 : file_Load.frames k (cutT s) 0 = some xs := h1 k (by omega)
  unfold cutT at h4
  show (file_Load.frames k (s.extract 0 (min s.size 65536)) 0).bind _ = _
  rw [h4, Option.bind_some, if_pos ⟨hl, List.all_eq_true.2 fun x hx => known_good (h3 x hx)⟩, fold_known xs [] 0 h3 (by simp)]
  congr 1
  rw [hxs]
  exact foldS_load (cutT s) _ 513 [] 0 (by omega) (by omega) (by omega) rfl
def fineN (l : List Nd) : Prop := l.length * 56 ≤ 140737488351232 ∧ ∀ x ∈ l, (Lit.int .i64 x.f0).wf = true ∧ (Lit.int .i64 x.f1).wf = true ∧ (x.f2.length * 16 ≤ 140737488351232 ∧ ∀ s ∈ x.f2, s.size ≤ 140737488351232) ∧ x.f3.size ≤ 140737488351232
theorem fineN.ok {l : List Nd} (h : fineN l) : okN l := ⟨by have := h.1; omega, fun x hx => by have := (h.2 x hx).2.2.1.1; omega⟩
theorem num_ev (x : Int) : Ev (fun _ => sleuthlaw0_Num.f x) x := Ev.now _
theorem sameTexts_l0 (a : List ByteArray) (ha : a.length ≤ 9223372036854775806) : ∀ (n i : Nat), i + n = a.length → Ev (fun k => sleuthlaw0_SameTexts.l0 k a a (i : Int)) true := by
  intro n
  induction n with
  | zero =>
    intro i hi
    refine Ev.step (f := fun _ => some true) (fun k => ?_) (Ev.now _)
    rw [sleuthlaw0_SameTexts.l0, if_neg (by omega)]
  | succ n ih =>
    intro i hi
    have hw : wrap64 ((i : Int) + 1) = ((i + 1 : Nat) : Int) := by rw [w64 (by omega) (by omega)]; omega
    refine Ev.step (f := fun k => sleuthlaw0_SameTexts.l0 k a a ((i + 1 : Nat) : Int)) (fun k => ?_) (ih (i + 1) (by omega))
    rw [sleuthlaw0_SameTexts.l0, if_pos (by omega), if_pos (by omega), if_pos (by omega), if_pos rfl, hw]
theorem sameTexts_ev (a : List ByteArray) (ha : a.length ≤ 9223372036854775806) : Ev (fun k => sleuthlaw0_SameTexts.f k a a) true := by
  unfold sleuthlaw0_SameTexts.f
  simp only [if_pos]
  exact sameTexts_l0 a ha a.length 0 (by omega)
theorem sameNode_ev (x : Nd) (hx : x.f2.length ≤ 9223372036854775806) : Ev (fun k => sleuthlaw0_SameNode.f k x.f0 x.f1 x.f2 x.f3 x.f0 x.f1 x.f2 x.f3) true := by
  unfold sleuthlaw0_SameNode.f
  simp only [if_pos]
  refine Ev.bind (sameTexts_ev _ hx) ?_
  simp only [if_pos, beq_self_eq_true]
  exact Ev.now _
theorem sameNodes_l0 (a : List Nd) (ha : okN a) : ∀ (n i : Nat), i + n = a.length → Ev (fun k => sleuthlaw0_SameNodes.l0 k a a (i : Int)) true := by
  intro n
  have hl := ha.1
  induction n with
  | zero =>
    intro i hi
    refine Ev.step (f := fun _ => some true) (fun k => ?_) (Ev.now _)
    simp only [sleuthlaw0_SameNodes.l0]
    rw [if_neg (by omega)]
  | succ n ih =>
    intro i hi
    have hw : wrap64 ((i : Int) + 1) = ((i + 1 : Nat) : Int) := by rw [w64 (by omega) (by omega)]; omega
    refine Ev.step (f := fun k => (sleuthlaw0_SameNode.f k (rn a (i : Int)).f0 (rn a (i : Int)).f1 (rn a (i : Int)).f2 (rn a (i : Int)).f3 (rn a (i : Int)).f0 (rn a (i : Int)).f1 (rn a (i : Int)).f2 (rn a (i : Int)).f3).bind fun t => if t = true then sleuthlaw0_SameNodes.l0 k a a ((i + 1 : Nat) : Int) else some false) (fun k => ?_) ?_
    · rw [sleuthlaw0_SameNodes.l0, if_pos (by omega), if_pos (by omega), if_pos (by omega), hw]
    · refine Ev.bind (sameNode_ev (rn a (i : Int)) (Nat.le_trans (ha.at _) (by omega))) ?_
      simp only [if_pos]
      exact ih (i + 1) (by omega)
theorem sameNodes_ev (a : List Nd) (ha : okN a) : Ev (fun k => sleuthlaw0_SameNodes.f k a a) true := by
  unfold sleuthlaw0_SameNodes.f
  simp only [if_pos]
  exact sameNodes_l0 a ha a.length 0 (by omega)
def some17 : List Nd := [(⟨0, (-1), ([] : List ByteArray), (⟨#[57]⟩ : ByteArray)⟩ : Nd), (⟨1, 0, (([(⟨#[64, 55, 40, 95, 32, 52, 41]⟩ : ByteArray), (⟨#[53]⟩ : ByteArray)] : List ByteArray)), (⟨#[57]⟩ : ByteArray)⟩ : Nd), (⟨2, 0, ([] : List ByteArray), (⟨#[33]⟩ : ByteArray)⟩ : Nd), (⟨1, 1, (([(⟨#[49]⟩ : ByteArray), (⟨#[95]⟩ : ByteArray)] : List ByteArray)), (⟨#[95]⟩ : ByteArray)⟩ : Nd), (⟨1, 2, (([(⟨#[49]⟩ : ByteArray), (⟨#[95]⟩ : ByteArray)] : List ByteArray)), (⟨#[95]⟩ : ByteArray)⟩ : Nd)]
theorem some17_eq : sleuthlaw17_some.f = some some17 := rfl
theorem some17_may : mayT some17 = true := by kernel_rfl
theorem valid_ok {xs : List Nd} (h : validS xs) : okN xs := by
  refine ⟨by have := valid_len h; omega, fun x hx => ?_⟩
  obtain ⟨i, hi, rfl⟩ := List.getElem_of_mem hx
  have := (eqS_spec (recS_spec (recS_of_next (h i hi))).1).2.2.1
  omega
theorem fileB_size {xs : List Nd} (h : ∀ x ∈ xs, recS x = true) : (fileB xs).size ≤ 8198 * xs.length := by
  induction xs with
  | nil => exact Nat.le_refl _
  | cons x xs ih =>
    rw [fileB, ByteArray.size_append, frec_size, List.length_cons]
    have h1 := recOf_size (h x List.mem_cons_self)
    have h2 := ih (fun y hy => h y (List.mem_cons_of_mem _ hy))
    omega
theorem valid_rec {xs : List Nd} (h : validS xs) : ∀ x ∈ xs, recS x = true := fun x hx => by
  obtain ⟨i, hi, rfl⟩ := List.getElem_of_mem hx
  exact recS_of_next (h i hi)
theorem cutT_le {s : ByteArray} (h : s.size ≤ 65536) : cutT s = s := by
  unfold cutT
  rw [Nat.min_eq_left h, ByteArray.extract_zero_size]
theorem cut_pre (s : ByteArray) : ∃ r, s = cutT s ++ r := ⟨_, split_at s (min s.size 65536) s.size (by omega) (Nat.le_refl _)⟩
theorem ext_pre (a b : ByteArray) : (a ++ b).extract 0 a.size = a := by
  apply bytesOf_inj
  rw [bytesOf_extract, bytesOf_append, List.drop_zero, List.take_append_of_le_length (by rw [bytesOf_length]; omega), List.take_of_length_le (by rw [bytesOf_length]; omega)]
theorem textS_ok {ns : List Nd} (h : mayT ns = true) (hs : (fileB ns).size ≤ 65536) : textS ns = (fileB ns, 0) := by
  unfold textS
  rw [if_pos h, if_neg (by omega)]
theorem textS_cases (ns : List Nd) : (mayT ns = true ∧ (fileB ns).size ≤ 65536 ∧ textS ns = (fileB ns, 0)) ∨ textS ns = (⟨#[]⟩, 1700) := by
  unfold textS
  by_cases c : mayT ns = true
  · rw [if_pos c]
    by_cases c2 : 65536 < (fileB ns).size
    · rw [if_pos c2]; exact .inr rfl
    · rw [if_neg c2]; exact .inl ⟨c, by omega, rfl⟩
  · rw [if_neg c]; exact .inr rfl
theorem load_short {ys : List Nd} {r : ByteArray} (hv : validS ys) (hr : r.size < 6) (hs : (fileB ys ++ r).size ≤ 65536) : loadT (fileB ys ++ r) = (ys, ((fileB ys).size : Int)) := by
  unfold loadT
  rw [cutT_le hs]
  exact loadS_eq hv rfl (stepF_short (by rw [ByteArray.size_append]; omega))
theorem empty_app (s : ByteArray) : s = s ++ (⟨#[]⟩ : ByteArray) := (app_nil s).symm
theorem load_file {ys : List Nd} (hv : validS ys) (hs : (fileB ys).size ≤ 65536) : loadT (fileB ys) = (ys, ((fileB ys).size : Int)) := by
  have := load_short (r := ⟨#[]⟩) hv (by decide) (by rw [app_nil]; exact hs)
  rwa [app_nil] at this
theorem awake17_ev : Ev (fun k => sleuthlaw17_awake.f k) true := by
  unfold sleuthlaw17_awake.f
  have hv := ((mayT_iff some17).1 some17_may).2
  have hz : (fileB some17).size ≤ 40990 := fileB_size (valid_rec hv)
  have e1 := text_ev some17
  rw [textS_ok some17_may (by omega)] at e1
  have e2 := load_ev (fileB some17 ++ (⟨#[120]⟩ : ByteArray))
  rw [load_short hv (by decide) (by rw [ByteArray.size_append]; show _ + 1 ≤ _; omega)] at e2
  have e3 := load_ev (⟨#[]⟩ : ByteArray)
  rw [show loadT (⟨#[]⟩ : ByteArray) = ([], 0) from load_file (ys := []) valid_nil (by decide)] at e3
  have e4 := text_ev []
  have h4 : textS [] = (⟨#[]⟩, 1700) := by unfold textS; rw [if_neg (by decide)]
  rw [h4] at e4
  simp only [some17_eq, Option.bind_some]
  refine Ev.bind e1 ?_
  have c1 : (fileB some17).size + 1 ≤ 9223372036854775807 := by omega
  simp only [if_pos c1]
  refine Ev.bind e2 (Ev.bind e3 (Ev.bind e4 ?_))
  simp only [sleuthlaw0_Num.f, Option.bind_some, if_pos]
  refine Ev.bind (sameNodes_ev some17 (valid_ok hv)) ?_
  simp only [if_pos, List.length_nil, Int.natCast_zero, BEq.rfl]
  exact Ev.now _
end Go.Proofs.YtnhmmbgnaogokaaDoor.G
end
