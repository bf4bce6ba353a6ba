import Derived.Test.YtnoehmpmkfkgfaaDoorTLaw
namespace Go.Proofs.YtnoehmpmkfkgfaaDoor.G
open Go.RowKit Go.Proofs.YtnoehmpmkfkgfaaDoorW.PrintWords Go.Proofs.YtnoehmpmkfkgfaaDoorW.PrintLast Go.Proofs.YtnoehmpmkfkgfaaDoorW.PrintMore
set_option linter.unusedVariables false
set_option linter.unusedSimpArgs false

/-! a term at the front of a text -/
abbrev TR := Int × Int × List ByteArray × List UInt8
def kidsL (f : List UInt8 → Option TR) (x : Int) : List ByteArray → Nat → List UInt8 → Option TR
  | _, 0, _ => none
  | ks, m + 1, l => match f l with
    | none => none
    | some r => if r.2.2.2.head? = some 32 then kidsL f x (ks ++ [B (l.take (l.length - r.2.2.2.length))]) m r.2.2.2.tail else if r.2.2.2.head? = some 41 then some (2, x, ks ++ [B (l.take (l.length - r.2.2.2.length))], r.2.2.2.tail) else none
def spT : Nat → List UInt8 → Option TR
  | 0, _ => none
  | n + 1, l => if l.takeWhile nsep = [95] then some (0, 0, [], l.dropWhile nsep) else if l.takeWhile nsep = [33] then some (3, 0, [], l.dropWhile nsep) else
    match numC (l.takeWhile nsep) with
    | some x => some (1, x, [], l.dropWhile nsep)
    | none => match tagC (l.takeWhile nsep) with
      | none => none
      | some x => if (l.dropWhile nsep).head? = some 40 then kidsL (spT n) x [] 3 (l.dropWhile nsep).tail else some (2, x, [], l.dropWhile nsep)
theorem head_tail {l : List UInt8} {b : UInt8} (h : l.head? = some b) : l = b :: l.tail := by
  cases l with
  | nil => cases h
  | cons a t => obtain rfl : a = b := by simpa using h
                rfl
theorem kidsL_suf (f : List UInt8 → Option TR) (hf : ∀ l r, f l = some r → ∃ p, l = p ++ r.2.2.2) (x : Int) : ∀ (m : Nat) (ks : List ByteArray) (l : List UInt8) (r : TR), kidsL f x ks m l = some r → ∃ p, l = p ++ r.2.2.2 := by
  intro m
  induction m with
  | zero => intro ks l r h; cases h
  | succ m ih =>
    intro ks l r h
    rw [kidsL] at h
    cases hl : f l with
    | none => rw [hl] at h; cases h
    | some q =>
      rw [hl] at h
      obtain ⟨p, hp⟩ := hf l q hl
      have h : (if q.2.2.2.head? = some 32 then kidsL f x (ks ++ [B (l.take (l.length - q.2.2.2.length))]) m q.2.2.2.tail else if q.2.2.2.head? = some 41 then some (2, x, ks ++ [B (l.take (l.length - q.2.2.2.length))], q.2.2.2.tail) else none) = some r := h
      by_cases c : q.2.2.2.head? = some 32
      · rw [if_pos c] at h
        obtain ⟨p2, hp2⟩ := ih _ _ _ h
        refine ⟨p ++ 32 :: p2, ?_⟩
        rw [List.append_assoc, List.cons_append, ← hp2, ← head_tail c]
        exact hp
      · rw [if_neg c] at h
        by_cases c2 : q.2.2.2.head? = some 41
        · rw [if_pos c2] at h
          obtain rfl := Option.some.inj h
          refine ⟨p ++ [41], ?_⟩
          rw [List.append_assoc, List.singleton_append, ← head_tail c2]
          exact hp
        · rw [if_neg c2] at h; cases h
theorem tw_dw (l : List UInt8) : l = l.takeWhile nsep ++ l.dropWhile nsep := List.takeWhile_append_dropWhile.symm
theorem spT_suf : ∀ (n : Nat) (l : List UInt8) (r : TR), spT n l = some r → ∃ p, l = p ++ r.2.2.2 := by
  intro n
  induction n with
  | zero => intro l r h; cases h
  | succ n ih =>
    intro l r h
    rw [spT] at h
    have hw := tw_dw l
    by_cases c1 : l.takeWhile nsep = [95]
    · rw [if_pos c1] at h; obtain rfl := Option.some.inj h; exact ⟨_, hw⟩
    · rw [if_neg c1] at h
      by_cases c2 : l.takeWhile nsep = [33]
      · rw [if_pos c2] at h; obtain rfl := Option.some.inj h; exact ⟨_, hw⟩
      · rw [if_neg c2] at h
        cases hn : numC (l.takeWhile nsep) with
        | some x => rw [hn] at h; obtain rfl := Option.some.inj h; exact ⟨_, hw⟩
        | none =>
          rw [hn] at h
          cases ht : tagC (l.takeWhile nsep) with
          | none => rw [ht] at h; cases h
          | some x =>
            rw [ht] at h
            have h : (if (l.dropWhile nsep).head? = some 40 then kidsL (spT n) x [] 3 (l.dropWhile nsep).tail else some (2, x, [], l.dropWhile nsep)) = some r := h
            by_cases c3 : (l.dropWhile nsep).head? = some 40
            · rw [if_pos c3] at h
              obtain ⟨p, hp⟩ := kidsL_suf (spT n) ih x _ _ _ _ h
              refine ⟨l.takeWhile nsep ++ 40 :: p, ?_⟩
              rw [List.append_assoc, List.cons_append, ← hp, ← head_tail c3]
              exact hw
            · rw [if_neg c3] at h; obtain rfl := Option.some.inj h; exact ⟨_, hw⟩

/-! the program's own -/
theorem hasPre (b : UInt8) (l : List UInt8) : strings_HasPrefix.f (B l) ⟨#[b]⟩ = some (decide (l.head? = some b)) := by
  unfold strings_HasPrefix.f
  rw [B_list]
  congr 1
  show List.isPrefixOf [b] l = _
  cases l with
  | nil => rfl
  | cons a t =>
    show (b == a && List.isPrefixOf [] t) = _
    by_cases c : a = b
    · subst c; simp
    · rw [beq_eq_false_iff_ne.2 (fun e => c e.symm)]
      simp [c]
theorem cutPre (b : UInt8) (l : List UInt8) : strings_CutPrefix.f (B l) ⟨#[b]⟩ = some (if l.head? = some b then (B l.tail, true) else (B l, false)) := by
  have h := hasPre b l
  unfold strings_HasPrefix.f at h
  unfold strings_CutPrefix.f
  have h := Option.some.inj h
  by_cases c : l.head? = some b
  · rw [if_pos c, h, decide_eq_true c]
    rw [decide_eq_true c] at h
    unfold Lib.trimPrefix
    rw [h, if_pos rfl, B_list, head_tail c]
    rfl
  · rw [if_neg c, h, decide_eq_false c]
    rw [decide_eq_false c] at h
    unfold Lib.trimPrefix
    rw [h]
    rfl
def CutEv (g : Nat → Option (Int × Int × List ByteArray × ByteArray × Bool)) (o : Option TR) : Prop :=
  match o with
  | some r => Ev g (r.1, r.2.1, r.2.2.1, B r.2.2.2, true)
  | none => ∃ a b c d, Ev g (a, b, c, d, false)
theorem CutEv.step {g f : Nat → Option (Int × Int × List ByteArray × ByteArray × Bool)} {o : Option TR} (h : ∀ k, g (k + 1) = f k) (k : CutEv f o) : CutEv g o := by
  cases o with
  | some r => exact Ev.step h k
  | none => obtain ⟨a, b, c, d, k⟩ := k; exact ⟨a, b, c, d, Ev.step h k⟩
theorem CutEv.bind {β : Type} {g : Nat → Option β} {f : Nat → β → Option (Int × Int × List ByteArray × ByteArray × Bool)} {o : Option TR} {a : β} (h : Ev g a) (k : CutEv (fun n => f n a) o) : CutEv (fun n => (g n).bind (f n)) o := by
  cases o with
  | some r => exact Ev.bind h k
  | none => obtain ⟨a', b, c, d, k⟩ := k; exact ⟨a', b, c, d, Ev.bind h k⟩
theorem CutEv.congr {g f : Nat → Option (Int × Int × List ByteArray × ByteArray × Bool)} {o : Option TR} (h : ∀ k, g k = f k) (k : CutEv f o) : CutEv g o := by
  cases o with
  | some r => exact Ev.congr h k
  | none => obtain ⟨a, b, c, d, k⟩ := k; exact ⟨a, b, c, d, Ev.congr h k⟩
def afterKid (k : Nat) (l : ByteArray) (x : Int) (ks : List ByteArray) (t : Int × Int × List ByteArray × ByteArray × Bool) : Option (Int × Int × List ByteArray × ByteArray × Bool) :=
  if t.2.2.2.2 = true then (if 0 ≤ (wrap64 ((l.size : Int) - (t.2.2.2.1.size : Int))) then (if (wrap64 ((l.size : Int) - (t.2.2.2.1.size : Int))) ≤ (l.size : Int) then (if ks.length < 8796093022208 then ((some (ks ++ [l.extract 0 ((wrap64 ((l.size : Int) - (t.2.2.2.1.size : Int))) : Int).toNat] : List ByteArray)).bind fun y => ((strings_HasPrefix.f t.2.2.2.1 (⟨#[32]⟩ : ByteArray)).bind fun t125 => (if t125 = true then (term_cut.l0 k t.2.2.2.1 x y) else ((strings_CutPrefix.f t.2.2.2.1 (⟨#[41]⟩ : ByteArray)).bind fun bt126 => (some (2, x, y, bt126.1, bt126.2)))))) else (none)) else (none)) else (none)) else (some (0, 0, ([] : List ByteArray), (⟨#[]⟩ : ByteArray), false))
theorem cut_kids (n : Nat) (x : Int) (ih : ∀ l : List UInt8, l.length < n → l.length ≤ 1024 → CutEv (fun j => term_cut.f j (B l)) (spT n l)) :
    ∀ (m : Nat) (ks : List ByteArray) (c : UInt8) (l : List UInt8), ks.length + m = 3 → l.length < n → l.length ≤ 1023 → c ≠ 41 → CutEv (fun j => term_cut.l0 j (B (c :: l)) x ks) (kidsL (spT n) x ks m l) := by
  intro m
  induction m with
  | zero =>
    intro ks c l h3 hn hl hc
    refine CutEv.step (f := fun _ => some (2, x, ks, B (c :: l), false)) (fun k => ?_) ⟨_, _, _, _, Ev.now _⟩
    simp only [term_cut.l0]
    rw [if_neg (by omega), cutPre, if_neg (by simpa using hc)]
    rfl
  | succ m ihm =>
    intro ks c l h3 hn hl hc
    have hcut := ih l hn (by omega)
    have hx : (B (c :: l)).extract 1 (B (c :: l)).size = B l := by rw [B_tail]; rfl
    rw [kidsL]
    cases hs : spT n l with
    | none =>
      rw [hs] at hcut
      obtain ⟨a1, a2, a3, a4, hcut⟩ := hcut
      refine CutEv.step (f := fun k => (term_cut.f k (B l)).bind (afterKid k (B l) x ks)) (fun k => ?_) (CutEv.bind hcut ?_)
      · simp only [term_cut.l0]
        rw [if_pos (by omega), if_pos (by rw [B_size]; simp only [List.length_cons]; omega), hx]
        rfl
      · exact ⟨_, _, _, _, Ev.now _⟩
    | some r =>
      rw [hs] at hcut
      obtain ⟨p, hp⟩ := spT_suf n l r hs
      have hlen : l.length = p.length + r.2.2.2.length := by rw [hp, List.length_append]
      have hcut : Ev (fun j => term_cut.f j (B l)) (r.1, r.2.1, r.2.2.1, B r.2.2.2, true) := hcut
      show CutEv _ (if r.2.2.2.head? = some 32 then kidsL (spT n) x (ks ++ [B (l.take (l.length - r.2.2.2.length))]) m r.2.2.2.tail else if r.2.2.2.head? = some 41 then some (2, x, ks ++ [B (l.take (l.length - r.2.2.2.length))], r.2.2.2.tail) else none)
      refine CutEv.step (f := fun k => (term_cut.f k (B l)).bind (afterKid k (B l) x ks)) (fun k => ?_) (CutEv.bind hcut ?_)
      · simp only [term_cut.l0]
        rw [if_pos (by omega), if_pos (by rw [B_size]; simp only [List.length_cons]; omega), hx]
        rfl
      · have hw : wrap64 (((B l).size : Int) - ((B r.2.2.2).size : Int)) = ((l.length - r.2.2.2.length : Nat) : Int) := by
          rw [B_size, B_size, w64 (by omega) (by omega)]; omega
        refine CutEv.congr (f := fun k => if r.2.2.2.head? = some 32 then term_cut.l0 k (B r.2.2.2) x (ks ++ [B (l.take (l.length - r.2.2.2.length))]) else if r.2.2.2.head? = some 41 then some (2, x, ks ++ [B (l.take (l.length - r.2.2.2.length))], B r.2.2.2.tail, true) else some (2, x, ks ++ [B (l.take (l.length - r.2.2.2.length))], B r.2.2.2, false)) (fun k => ?_) ?_
        · unfold afterKid
          simp only [hw]
          rw [if_pos True.intro, if_pos (by omega), if_pos (by rw [B_size]; omega), if_pos (by omega), Option.bind_some, hasPre, Option.bind_some, B_head, show ((l.length - r.2.2.2.length : Nat) : Int).toNat = l.length - r.2.2.2.length by omega]
          by_cases c1 : r.2.2.2.head? = some 32
          · rw [if_pos c1, if_pos (decide_eq_true c1)]
          · rw [if_neg c1, if_neg (by simpa using c1), cutPre]
            by_cases c2 : r.2.2.2.head? = some 41
            · rw [if_pos c2, if_pos c2]; rfl
            · rw [if_neg c2, if_neg c2]; rfl
        · by_cases c1 : r.2.2.2.head? = some 32
          · have hb := head_tail c1
            have hlb : r.2.2.2.length = r.2.2.2.tail.length + 1 := by
              conv => lhs; rw [hb]
              rfl
            have := ihm (ks ++ [B (l.take (l.length - r.2.2.2.length))]) 32 r.2.2.2.tail (by simp only [List.length_append, List.length_cons, List.length_nil]; omega) (by omega) (by omega) (by decide)
            rw [← hb] at this
            simp only [if_pos c1]
            exact this
          · by_cases c2 : r.2.2.2.head? = some 41
            · simp only [if_neg c1, if_pos c2]
              exact Ev.now _
            · simp only [if_neg c1, if_neg c2]
              exact ⟨_, _, _, _, Ev.now _⟩
theorem cut_ev : ∀ (n : Nat) (l : List UInt8), l.length < n → l.length ≤ 1024 → CutEv (fun j => term_cut.f j (B l)) (spT n l) := by
  intro n
  induction n with
  | zero => intro l h; omega
  | succ n ih =>
    intro l hn hl
    have hw := tw_dw l
    have hlen : l.length = (l.takeWhile nsep).length + (l.dropWhile nsep).length := by conv => lhs; rw [hw, List.length_append]
    have hwl : (l.takeWhile nsep).length ≤ 1024 := by omega
    rw [spT]
    refine CutEv.step (f := fun k => if l.takeWhile nsep = [95] then some (0, 0, ([] : List ByteArray), B (l.dropWhile nsep), true) else if l.takeWhile nsep = [33] then some (3, 0, ([] : List ByteArray), B (l.dropWhile nsep), true) else
      if (numF (B (l.takeWhile nsep))).2 = true then some (1, (numF (B (l.takeWhile nsep))).1, ([] : List ByteArray), B (l.dropWhile nsep), true) else (term_Tag.f (B (l.takeWhile nsep))).bind fun t => if t.2 = true then term_cut.j0 k (B (l.dropWhile nsep)) t.1 t.2 (!decide ((l.dropWhile nsep).head? = some 40)) else term_cut.j0 k (B (l.dropWhile nsep)) t.1 t.2 true) (fun k => ?_) ?_
    · simp only [term_cut.f]
      rw [word_eq l hl, Option.bind_some, B_toList, number_eq _ hwl, Option.bind_some]
      simp only [hasPre, Option.bind_some]
    · by_cases c1 : l.takeWhile nsep = [95]
      · simp only [if_pos c1]; exact Ev.now _
      · simp only [if_neg c1]
        by_cases c2 : l.takeWhile nsep = [33]
        · simp only [if_pos c2]; exact Ev.now _
        · simp only [if_neg c2]
          cases hnum : numC (l.takeWhile nsep) with
          | some x =>
            rw [numF_some hnum]
            exact Ev.now _
          | none =>
            have hnf : ¬ ((numF (B (l.takeWhile nsep))).2 = true) := by rw [numF_none hnum]; simp
            simp only [if_neg hnf]
            cases htag : tagC (l.takeWhile nsep) with
            | none =>
              obtain ⟨x, hx⟩ := tag_none hwl htag
              refine CutEv.step (f := fun _ => some (2, x, ([] : List ByteArray), B (l.dropWhile nsep), false)) (fun k => ?_) ⟨_, _, _, _, Ev.now _⟩
              rw [hx]
              rfl
            | some x =>
              have hx := tag_some htag
              by_cases c3 : (l.dropWhile nsep).head? = some 40
              · show CutEv _ (if (l.dropWhile nsep).head? = some 40 then kidsL (spT n) x [] 3 (l.dropWhile nsep).tail else some (2, x, [], l.dropWhile nsep))
                rw [if_pos c3]
                have hb := head_tail c3
                have hlb : (l.dropWhile nsep).length = (l.dropWhile nsep).tail.length + 1 := by
                  conv => lhs; rw [hb]
                  rfl
                have hk := cut_kids n x ih 3 [] 40 (l.dropWhile nsep).tail rfl (by omega) (by omega) (by decide)
                rw [← hb] at hk
                refine CutEv.step (fun k => ?_) hk
                rw [hx]
                show (if true = true then term_cut.j0 (k + 1) (B (l.dropWhile nsep)) x true (!decide ((l.dropWhile nsep).head? = some 40)) else term_cut.j0 (k + 1) (B (l.dropWhile nsep)) x true true) = _
                rw [if_pos rfl, decide_eq_true c3]
                rfl
              · show CutEv _ (if (l.dropWhile nsep).head? = some 40 then kidsL (spT n) x [] 3 (l.dropWhile nsep).tail else some (2, x, [], l.dropWhile nsep))
                rw [if_neg c3]
                refine CutEv.step (f := fun _ => some (2, x, ([] : List ByteArray), B (l.dropWhile nsep), true)) (fun k => ?_) (Ev.now _)
                rw [hx]
                show (if true = true then term_cut.j0 (k + 1) (B (l.dropWhile nsep)) x true (!decide ((l.dropWhile nsep).head? = some 40)) else term_cut.j0 (k + 1) (B (l.dropWhile nsep)) x true true) = _
                rw [if_pos rfl, decide_eq_false c3]
                rfl
end Go.Proofs.YtnoehmpmkfkgfaaDoor.G
