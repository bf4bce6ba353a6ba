import Derived.Test.YtnoehmpmkfkgfaaDoorTRef
import Derived.Test.YtnoehmpmkfkgfaaDoorG11
import Derived.Test.YtnoehmpmkfkgfaaDoorG16
namespace Go.Proofs.YtnoehmpmkfkgfaaDoor.G
open Go.RowKit Go.Proofs.YtnoehmpmkfkgfaaDoorW.PrintWords Go.Proofs.YtnoehmpmkfkgfaaDoorW.PrintLast Go.Proofs.YtnoehmpmkfkgfaaDoorW.PrintMore
set_option linter.unusedVariables false
set_option linter.unusedSimpArgs false

/-! what both answer: a text's kind, number, parts -/
def noCut : Int × Int × List ByteArray × Int := (0, 0, [], 200)
def cutL (l : List UInt8) : Int × Int × List ByteArray × Int :=
  if l.length > 1024 then noCut else match spT (l.length + 1) l with
    | some r => if r.2.2.2 = [] then (r.1, r.2.1, r.2.2.1, 0) else noCut
    | none => noCut
def cutS (s : ByteArray) : Int × Int × List ByteArray × Int := cutL s.data.toList
def mayS (s : ByteArray) : Bool := decide ((cutS s).2.2.2 = 0)
theorem refCut_ev (s : ByteArray) : Ev (fun k => sleuthref1_Cut.f k s) (cutS s) := by
  rw [← B_data s]
  generalize s.data.toList = l
  show Ev _ (cutL l)
  unfold cutL
  by_cases c : l.length > 1024
  · rw [if_pos c]
    have c1 : ((B l).size : Int) > 1024 := by rw [B_size]; omega
    simp only [sleuthref1_Cut.f, if_pos c1]
    exact Ev.now _
  · rw [if_neg c]
    have c1 : ¬ (((B l).size : Int) > 1024) := by rw [B_size]; omega
    simp only [sleuthref1_Cut.f, if_neg c1]
    have h := ref_term l (by omega) (l.length + 1) 0 (by omega) (by omega)
    rw [List.drop_zero] at h
    cases hs : spT (l.length + 1) l with
    | none =>
      rw [hs] at h
      obtain ⟨x, y, z, d, hev, hd⟩ := h
      refine Ev.bind hev ?_
      have : ¬ d = ((B l).size : Int) := by
        rw [B_size]
        rcases hd with rfl | ⟨t, ht, rfl, _⟩ <;> omega
      simp only [if_neg this]
      exact Ev.now _
    | some r =>
      rw [hs] at h
      refine Ev.bind (show Ev _ (r.1, r.2.1, r.2.2.1, ((l.length - r.2.2.2.length : Nat) : Int)) from h) ?_
      obtain ⟨p, hp⟩ := spT_suf _ l r hs
      have hlen : l.length = p.length + r.2.2.2.length := by conv => lhs; rw [hp, List.length_append]
      by_cases c2 : r.2.2.2 = []
      · have : ((l.length - r.2.2.2.length : Nat) : Int) = ((B l).size : Int) := by rw [B_size, c2]; rfl
        simp only [if_pos this, if_pos c2]
        exact Ev.now _
      · have h0 : r.2.2.2.length ≠ 0 := fun e => c2 (List.length_eq_zero_iff.1 e)
        have : ¬ ((l.length - r.2.2.2.length : Nat) : Int) = ((B l).size : Int) := by rw [B_size]; omega
        simp only [if_neg this, if_neg c2]
        exact Ev.now _
theorem may_ev (s : ByteArray) : Ev (fun k => term_May.f k s) (mayS s) := by
  unfold mayS cutS
  rw [← B_data s]
  generalize s.data.toList = l
  unfold cutL
  by_cases c : l.length > 1024
  · rw [if_pos c]
    have c1 : ((B l).size : Int) > 1024 := by rw [B_size]; omega
    simp only [term_May.f, if_pos c1]
    exact Ev.now _
  · rw [if_neg c]
    have c1 : ¬ (((B l).size : Int) > 1024) := by rw [B_size]; omega
    simp only [term_May.f, if_neg c1]
    have h := cut_ev (l.length + 1) l (by omega) (by omega)
    cases hs : spT (l.length + 1) l with
    | none =>
      rw [hs] at h
      obtain ⟨x, y, z, d, hev⟩ := h
      refine Ev.bind hev ?_
      simp only [if_neg (show ¬ (false = true) by decide)]
      exact Ev.now _
    | some r =>
      rw [hs] at h
      refine Ev.bind (show Ev _ (r.1, r.2.1, r.2.2.1, B r.2.2.2, true) from h) ?_
      simp only [if_pos, B_toList]
      by_cases c2 : r.2.2.2 = []
      · simp only [if_pos c2]
        rw [c2]
        exact Ev.now _
      · simp only [if_neg c2]
        have : (r.2.2.2 == ([] : List UInt8)) = false := by rw [beq_eq_false_iff_ne]; exact c2
        rw [this]
        exact Ev.now _
theorem cut_ev2 (s : ByteArray) : Ev (fun k => term_Cut.f k s) (cutS s) := by
  have hm := may_ev s
  unfold term_Cut.f
  refine Ev.bind hm ?_
  unfold mayS cutS
  rw [← B_data s]
  generalize s.data.toList = l
  unfold cutL
  by_cases c : l.length > 1024
  · simp only [if_pos c]
    exact Ev.now _
  · simp only [if_neg c]
    have h := cut_ev (l.length + 1) l (by omega) (by omega)
    cases hs : spT (l.length + 1) l with
    | none => exact Ev.now _
    | some r =>
      rw [hs] at h
      by_cases c2 : r.2.2.2 = []
      · simp only [if_pos c2]
        refine Ev.bind (show Ev _ (r.1, r.2.1, r.2.2.1, B r.2.2.2, true) from h) (Ev.now _)
      · simp only [if_neg c2]
        exact Ev.now _
theorem refMay_ev (s : ByteArray) : Ev (fun k => sleuthref1_TermMay.f k s) (mayS s) := by
  unfold sleuthref1_TermMay.f
  refine Ev.bind (refCut_ev s) ?_
  have e : ((cutS s).2.2.2 == 0) = mayS s := by unfold mayS; rw [Bool.eq_iff_iff]; simp
  simp only [e]
  exact Ev.now _

/-! parts are smaller, and at most three -/
theorem kidsL_kids (f : List UInt8 → Option TR) (hf : ∀ l r, f l = some r → ∃ p, l = p ++ r.2.2.2) (x : Int) : ∀ (m : Nat) (ks : List ByteArray) (l : List UInt8) (r : TR), kidsL f x ks m l = some r → r.2.2.1.length ≤ ks.length + m ∧ ∀ k ∈ r.2.2.1, k ∈ ks ∨ k.size ≤ l.length := by
  intro m
  induction m with
  | zero => intro ks l r h; cases h
  | succ m ih =>
    intro ks l r h
    rw [kidsL] at h
    cases hl : f l with
    | none => rw [hl] at h; cases h
    | some q =>
      rw [hl] at h
      obtain ⟨p, hp⟩ := hf l q hl
      have hlen : l.length = p.length + q.2.2.2.length := by conv => lhs; rw [hp, List.length_append]
      have hsz : (B (l.take (l.length - q.2.2.2.length))).size ≤ l.length := by rw [B_size, List.length_take]; omega
      have h : (if q.2.2.2.head? = some 32 then kidsL f x (ks ++ [B (l.take (l.length - q.2.2.2.length))]) m q.2.2.2.tail else if q.2.2.2.head? = some 41 then some (2, x, ks ++ [B (l.take (l.length - q.2.2.2.length))], q.2.2.2.tail) else none) = some r := h
      by_cases c : q.2.2.2.head? = some 32
      · rw [if_pos c] at h
        obtain ⟨h1, h2⟩ := ih _ _ _ h
        simp only [List.length_append, List.length_cons, List.length_nil] at h1
        have htl : q.2.2.2.tail.length ≤ q.2.2.2.length := by rw [List.length_tail]; omega
        refine ⟨by omega, fun k hk => ?_⟩
        rcases h2 k hk with h3 | h3
        · rcases List.mem_append.1 h3 with h4 | h4
          · exact .inl h4
          · rw [List.mem_singleton] at h4; rw [h4]; exact .inr hsz
        · exact .inr (by omega)
      · rw [if_neg c] at h
        by_cases c2 : q.2.2.2.head? = some 41
        · rw [if_pos c2] at h
          obtain rfl := Option.some.inj h
          refine ⟨by simp only [List.length_append, List.length_cons, List.length_nil]; omega, fun k hk => ?_⟩
          rcases List.mem_append.1 hk with h4 | h4
          · exact .inl h4
          · rw [List.mem_singleton] at h4; rw [h4]; exact .inr hsz
        · rw [if_neg c2] at h; cases h
theorem spT_kids (n : Nat) (l : List UInt8) (r : TR) (h : spT n l = some r) : r.2.2.1.length ≤ 3 ∧ (∀ k ∈ r.2.2.1, k.size < l.length) ∧ (r.1 ≠ 2 → r.2.2.1 = []) := by
  cases n with
  | zero => cases h
  | succ n =>
    rw [spT] at h
    have hw := tw_dw l
    have hlen : l.length = (l.takeWhile nsep).length + (l.dropWhile nsep).length := by conv => lhs; rw [hw, List.length_append]
    by_cases c1 : l.takeWhile nsep = [95]
    · rw [if_pos c1] at h; obtain rfl := Option.some.inj h; exact ⟨by simp, by simp, fun _ => rfl⟩
    · rw [if_neg c1] at h
      by_cases c2 : l.takeWhile nsep = [33]
      · rw [if_pos c2] at h; obtain rfl := Option.some.inj h; exact ⟨by simp, by simp, fun _ => rfl⟩
      · rw [if_neg c2] at h
        cases hn : numC (l.takeWhile nsep) with
        | some x => rw [hn] at h; obtain rfl := Option.some.inj h; exact ⟨by simp, by simp, fun _ => rfl⟩
        | none =>
          rw [hn] at h
          cases ht : tagC (l.takeWhile nsep) with
          | none => rw [ht] at h; cases h
          | some x =>
            rw [ht] at h
            have h : (if (l.dropWhile nsep).head? = some 40 then kidsL (spT n) x [] 3 (l.dropWhile nsep).tail else some (2, x, [], l.dropWhile nsep)) = some r := h
            by_cases c3 : (l.dropWhile nsep).head? = some 40
            · rw [if_pos c3] at h
              obtain ⟨h1, h2⟩ := kidsL_kids (spT n) (spT_suf n) x _ _ _ _ h
              have hlb : (l.dropWhile nsep).length = (l.dropWhile nsep).tail.length + 1 := by
                conv => lhs; rw [head_tail c3]
                rfl
              refine ⟨h1, fun k hk => ?_, fun hr => ?_⟩
              · rcases h2 k hk with h3 | h3
                · cases h3
                · omega
              · exfalso
                apply hr
                clear h1 h2 hr hlb
                have : ∀ (m : Nat) (ks : List ByteArray) (t : List UInt8), kidsL (spT n) x ks m t = some r → r.1 = 2 := by
                  intro m
                  induction m with
                  | zero => intro ks t h; cases h
                  | succ m ihm =>
                    intro ks t h
                    rw [kidsL] at h
                    cases hl : spT n t with
                    | none => rw [hl] at h; cases h
                    | some q =>
                      rw [hl] at h
                      have h : (if q.2.2.2.head? = some 32 then kidsL (spT n) x (ks ++ [B (t.take (t.length - q.2.2.2.length))]) m q.2.2.2.tail else if q.2.2.2.head? = some 41 then some (2, x, ks ++ [B (t.take (t.length - q.2.2.2.length))], q.2.2.2.tail) else none) = some r := h
                      by_cases c : q.2.2.2.head? = some 32
                      · rw [if_pos c] at h; exact ihm _ _ h
                      · rw [if_neg c] at h
                        by_cases c2 : q.2.2.2.head? = some 41
                        · rw [if_pos c2] at h; obtain rfl := Option.some.inj h; rfl
                        · rw [if_neg c2] at h; cases h
                exact this _ _ _ h
            · rw [if_neg c3] at h; obtain rfl := Option.some.inj h; exact ⟨by simp, by simp, fun _ => rfl⟩
theorem cutS_kids (s : ByteArray) : (cutS s).2.2.1.length ≤ 3 ∧ (∀ k ∈ (cutS s).2.2.1, k.size < s.size) ∧ ((cutS s).1 ≠ 2 → (cutS s).2.2.1 = []) := by
  unfold cutS cutL
  rw [Lib.size_eq]
  by_cases c : s.data.toList.length > 1024
  · rw [if_pos c]; exact ⟨by simp [noCut], by simp [noCut], fun _ => rfl⟩
  · rw [if_neg c]
    cases hs : spT (s.data.toList.length + 1) s.data.toList with
    | none => exact ⟨by simp [noCut], by simp [noCut], fun _ => rfl⟩
    | some r =>
      dsimp only
      by_cases c2 : r.2.2.2 = []
      · rw [if_pos c2]; exact spT_kids _ _ _ hs
      · rw [if_neg c2]; exact ⟨by simp [noCut], by simp [noCut], fun _ => rfl⟩
/-! which one tells less -/
def allB (le : ByteArray → ByteArray → Bool) : List ByteArray → List ByteArray → Bool
  | x :: xs, y :: ys => le x y && allB le xs ys
  | _, _ => true
def leS : Nat → ByteArray → ByteArray → Bool
  | 0, _, _ => true
  | n + 1, a, b => if (cutS a).1 = 0 then true else if (cutS a).1 = (cutS b).1 ∧ (cutS a).2.1 = (cutS b).2.1 ∧ (cutS a).2.2.1.length = (cutS b).2.2.1.length then allB (leS n) (cutS a).2.2.1 (cutS b).2.2.1 else false
theorem rdOf_get (xs : List ByteArray) (i : Nat) (h : i < xs.length) : rdOf ByteArray.empty xs (i : Int) = xs[i] := by
  unfold rdOf
  show xs.getD i _ = _
  rw [List.getD_eq_getElem?_getD, List.getElem?_eq_getElem h]
  rfl
theorem less_l0 (le : ByteArray → ByteArray → Bool) (xs ys : List ByteArray) (hl : xs.length = ys.length) (h3 : xs.length ≤ 3) (hx : ∀ (i : Nat) (h1 : i < xs.length) (h2 : i < ys.length), Ev (fun k => sleuthref1_less.f k xs[i] ys[i]) (le xs[i] ys[i])) :
    ∀ (n i : Nat), i + n = xs.length → Ev (fun k => sleuthref1_less.l0 k xs ys (i : Int)) (allB le (xs.drop i) (ys.drop i)) := by
  intro n
  induction n with
  | zero =>
    intro i hi
    refine Ev.step (f := fun _ => some true) (fun k => ?_) ?_
    · simp only [sleuthref1_less.l0]
      rw [if_neg (by omega)]
    · rw [List.drop_eq_nil_of_le (by omega)]; exact Ev.now _
  | succ n ih =>
    intro i hi
    have h1 : i < xs.length := by omega
    have h2 : i < ys.length := by omega
    have c1 : (i : Int) < (xs.length : Int) := by omega
    have c2 : (0 : Int) ≤ (i : Int) := by omega
    have c3 : (i : Int) < (ys.length : Int) := by omega
    have hw : wrap64 ((i : Int) + 1) = ((i + 1 : Nat) : Int) := by rw [w64 (by omega) (by omega)]; omega
    rw [List.drop_eq_getElem_cons h1, List.drop_eq_getElem_cons h2]
    refine Ev.step (f := fun k => (sleuthref1_less.f k xs[i] ys[i]).bind fun t => if t = true then sleuthref1_less.l0 k xs ys ((i + 1 : Nat) : Int) else some false) (fun k => ?_) ?_
    · simp only [sleuthref1_less.l0, if_pos c1, if_pos c2, if_pos c3, rdOf_get xs i h1, rdOf_get ys i h2, hw]
    · clear hw
      refine Ev.bind (hx i h1 h2) ?_
      show Ev _ (le xs[i] ys[i] && allB le (xs.drop (i + 1)) (ys.drop (i + 1)))
      cases le xs[i] ys[i] with
      | false => exact Ev.now _
      | true => simp only [if_pos, Bool.true_and]; exact ih (i + 1) (by omega)
theorem less_ev : ∀ (n : Nat) (a b : ByteArray), a.size < n → Ev (fun k => sleuthref1_less.f k a b) (leS n a b) := by
  intro n
  induction n with
  | zero => intro a b h; omega
  | succ n ih =>
    intro a b ha
    have hk := cutS_kids a
    rw [leS]
    refine Ev.step (f := fun k => (sleuthref1_Cut.f k a).bind fun p => (sleuthref1_Cut.f k b).bind fun q => if p.1 = 0 then some true else if p.1 = q.1 then (if p.2.1 = q.2.1 then sleuthref1_less.j0 k p.2.2.1 q.2.2.1 ((p.2.2.1.length : Int) != (q.2.2.1.length : Int)) else sleuthref1_less.j0 k p.2.2.1 q.2.2.1 true) else sleuthref1_less.j0 k p.2.2.1 q.2.2.1 true) (fun k => by simp only [sleuthref1_less.f]) ?_
    refine Ev.bind (refCut_ev a) (Ev.bind (refCut_ev b) ?_)
    generalize cutS a = p at hk ⊢
    generalize cutS b = q
    by_cases c0 : p.1 = 0
    · simp only [if_pos c0]; exact Ev.now _
    · simp only [if_neg c0]
      have hf : Ev (fun k => sleuthref1_less.j0 k p.2.2.1 q.2.2.1 true) false := Ev.step (f := fun _ => some false) (fun k => by simp only [sleuthref1_less.j0, if_pos]) (Ev.now _)
      by_cases c1 : p.1 = q.1
      · simp only [if_pos c1]
        by_cases c2 : p.2.1 = q.2.1
        · simp only [if_pos c2]
          by_cases c3 : p.2.2.1.length = q.2.2.1.length
          · rw [if_pos ⟨c1, c2, c3⟩]
            have hne : ((p.2.2.1.length : Int) != (q.2.2.1.length : Int)) = false := by rw [bne_eq_false_iff_eq]; omega
            simp only [hne]
            refine Ev.step (f := fun k => sleuthref1_less.l0 k p.2.2.1 q.2.2.1 0) (fun k => by simp only [sleuthref1_less.j0, if_neg (show ¬ (false = true) by decide)]) ?_
            exact less_l0 (leS n) p.2.2.1 q.2.2.1 c3 hk.1 (fun i h1 h2 => ih (p.2.2.1[i]) (q.2.2.1[i]) (by have := hk.2.1 (p.2.2.1[i]) (List.getElem_mem h1); omega)) p.2.2.1.length 0 (Nat.zero_add _)
          · rw [if_neg (fun h => c3 h.2.2)]
            have hne : ((p.2.2.1.length : Int) != (q.2.2.1.length : Int)) = true := by rw [bne_iff_ne]; omega
            simp only [hne]
            exact hf
        · simp only [if_neg c2]
          rw [if_neg (fun h => c2 h.2.1)]
          exact hf
      · simp only [if_neg c1]
        rw [if_neg (fun h => c1 h.1)]
        exact hf
theorem allB_refl (le : ByteArray → ByteArray → Bool) : ∀ xs : List ByteArray, (∀ x ∈ xs, le x x = true) → allB le xs xs = true
  | [], _ => rfl
  | x :: xs, h => by
    rw [allB, h x (by simp), allB_refl le xs (fun y hy => h y (by simp [hy]))]; rfl
theorem leS_refl : ∀ (n : Nat) (a : ByteArray), leS n a a = true := by
  intro n
  induction n with
  | zero => intro a; rfl
  | succ n ih =>
    intro a
    rw [leS]
    by_cases c0 : (cutS a).1 = 0
    · rw [if_pos c0]
    · rw [if_neg c0, if_pos ⟨rfl, rfl, rfl⟩]; exact allB_refl _ _ (fun x _ => ih x)
/-- a number's, a failure's text -/
theorem spT_leaf {n : Nat} {l : List UInt8} {r : TR} (h : spT n l = some r) (hr : r.2.2.2 = []) : (r.1 = 1 → l = itoaK r.2.1) ∧ (r.1 = 3 → l = [33]) ∧ (r.1 = 0 ∨ r.1 = 1 ∨ r.1 = 2 ∨ r.1 = 3) := by
  cases n with
  | zero => cases h
  | succ n =>
    have h0 := h
    rw [spT] at h
    have hw := tw_dw l
    by_cases c1 : l.takeWhile nsep = [95]
    · rw [if_pos c1] at h; obtain rfl := Option.some.inj h; exact ⟨fun e => by simp at e, fun e => by simp at e, .inl rfl⟩
    · rw [if_neg c1] at h
      by_cases c2 : l.takeWhile nsep = [33]
      · rw [if_pos c2] at h; obtain rfl := Option.some.inj h
        refine ⟨fun e => by simp at e, fun _ => ?_, .inr (.inr (.inr rfl))⟩
        have hr : l.dropWhile nsep = [] := hr
        rw [hw, hr, c2]; rfl
      · rw [if_neg c2] at h
        cases hn : numC (l.takeWhile nsep) with
        | some x =>
          rw [hn] at h; obtain rfl := Option.some.inj h
          refine ⟨fun _ => ?_, fun e => by simp at e, .inr (.inl rfl)⟩
          have hr : l.dropWhile nsep = [] := hr
          have := (num_some hn).2.1
          show l = itoaK x
          rw [this]
          conv => lhs; rw [hw, hr, List.append_nil]
        | none =>
          rw [hn] at h
          cases ht : tagC (l.takeWhile nsep) with
          | none => rw [ht] at h; cases h
          | some x =>
            have h2 : r.1 = 2 := by
              by_cases c : r.1 = 2
              · exact c
              · exfalso
                have hk := (spT_kids _ _ _ h0).2.2 c
                rw [ht] at h
                have h : (if (l.dropWhile nsep).head? = some 40 then kidsL (spT n) x [] 3 (l.dropWhile nsep).tail else some (2, x, [], l.dropWhile nsep)) = some r := h
                by_cases c3 : (l.dropWhile nsep).head? = some 40
                · rw [if_pos c3] at h
                  have : ∀ (m : Nat) (ks : List ByteArray) (t : List UInt8), kidsL (spT n) x ks m t = some r → r.2.2.1 ≠ [] := by
                    intro m
                    induction m with
                    | zero => intro ks t h; cases h
                    | succ m ihm =>
                      intro ks t h
                      rw [kidsL] at h
                      cases hl : spT n t with
                      | none => rw [hl] at h; cases h
                      | some q =>
                        rw [hl] at h
                        have h : (if q.2.2.2.head? = some 32 then kidsL (spT n) x (ks ++ [B (t.take (t.length - q.2.2.2.length))]) m q.2.2.2.tail else if q.2.2.2.head? = some 41 then some (2, x, ks ++ [B (t.take (t.length - q.2.2.2.length))], q.2.2.2.tail) else none) = some r := h
                        by_cases c : q.2.2.2.head? = some 32
                        · rw [if_pos c] at h; exact ihm _ _ h
                        · rw [if_neg c] at h
                          by_cases c2 : q.2.2.2.head? = some 41
                          · rw [if_pos c2] at h; obtain rfl := Option.some.inj h; simp
                          · rw [if_neg c2] at h; cases h
                  exact this _ _ _ h hk
                · rw [if_neg c3] at h; obtain rfl := Option.some.inj h; exact c rfl
            exact ⟨fun e => by omega, fun e => by omega, .inr (.inr (.inl h2))⟩
theorem cutS_leaf (a : ByteArray) : ((cutS a).1 = 1 → a = B (itoaK (cutS a).2.1)) ∧ ((cutS a).1 = 3 → a = B [33]) ∧ ((cutS a).1 = 0 ∨ (cutS a).1 = 1 ∨ (cutS a).1 = 2 ∨ (cutS a).1 = 3) := by
  rw [← B_data a]
  generalize a.data.toList = l
  show ((cutL l).1 = 1 → _) ∧ ((cutL l).1 = 3 → _) ∧ _
  have h0 : (noCut.1 = 1 → B l = B (itoaK noCut.2.1)) ∧ (noCut.1 = 3 → B l = B [33]) ∧ (noCut.1 = 0 ∨ noCut.1 = 1 ∨ noCut.1 = 2 ∨ noCut.1 = 3) := ⟨fun e => by simp [noCut] at e, fun e => by simp [noCut] at e, .inl rfl⟩
  show ((cutL l).1 = 1 → B l = B (itoaK (cutL l).2.1)) ∧ ((cutL l).1 = 3 → B l = B [33]) ∧ ((cutL l).1 = 0 ∨ (cutL l).1 = 1 ∨ (cutL l).1 = 2 ∨ (cutL l).1 = 3)
  unfold cutL
  by_cases c : l.length > 1024
  · rw [if_pos c]; exact h0
  · rw [if_neg c]
    cases hs : spT (l.length + 1) l with
    | none => exact h0
    | some r =>
      dsimp only
      by_cases c2 : r.2.2.2 = []
      · rw [if_pos c2]
        obtain ⟨h1, h2, h3⟩ := spT_leaf hs c2
        exact ⟨fun e => by rw [h1 e], fun e => by rw [h2 e], h3⟩
      · rw [if_neg c2]; exact h0
/-! the program's own order -/
theorem ev_all {α : Type} (g : Nat → α → Option Bool) (v : α → Bool) : ∀ xs : List α, (∀ x ∈ xs, Ev (fun k => g k x) (v x)) → ∃ K, ∀ k, K ≤ k → ∀ x ∈ xs, g k x = some (v x)
  | [], _ => ⟨0, fun _ _ _ h => by cases h⟩
  | x :: xs, h => by
    obtain ⟨K1, h1⟩ := h x (by simp)
    obtain ⟨K2, h2⟩ := ev_all g v xs (fun y hy => h y (by simp [hy]))
    refine ⟨max K1 K2, fun k hk y hy => ?_⟩
    rcases List.mem_cons.1 hy with rfl | hy
    · exact h1 k (by omega)
    · exact h2 k (by omega) y hy
theorem eqf_l0 (F : ByteArray → ByteArray → Option Bool) (le : ByteArray → ByteArray → Bool) (xs ys : List ByteArray) (hl : xs.length = ys.length) (h3 : xs.length ≤ 3) (hx : ∀ (i : Nat) (h1 : i < xs.length) (h2 : i < ys.length), F xs[i] ys[i] = some (le xs[i] ys[i])) :
    ∀ (n i k : Nat), i + n = xs.length → n < k → slices_EqualFunc.l0 F k xs ys (i : Int) = some (allB le (xs.drop i) (ys.drop i)) := by
  intro n
  induction n with
  | zero =>
    intro i k hi hk
    cases k with
    | zero => omega
    | succ k =>
      rw [slices_EqualFunc.l0, if_neg (by omega), List.drop_eq_nil_of_le (by omega)]; rfl
  | succ n ih =>
    intro i k hi hk
    cases k with
    | zero => omega
    | succ k =>
      have h1 : i < xs.length := by omega
      have h2 : i < ys.length := by omega
      have e := ih (i + 1) k (by omega) (by omega)
      have hw : wrap64 ((i : Int) + 1) = ((i + 1 : Nat) : Int) := by rw [w64 (by omega) (by omega)]; omega
      rw [slices_EqualFunc.l0, if_pos (by omega), if_pos (by omega), if_pos (by omega), rdOf_get xs i h1, rdOf_get ys i h2, hx i h1 h2, hw, e, List.drop_eq_getElem_cons h1, List.drop_eq_getElem_cons h2, allB]
      cases le xs[i] ys[i] <;> rfl
theorem under_ev : ∀ (n : Nat) (a b : ByteArray), a.size < n → Ev (fun k => below_under.f k a b) (leS n a b) := by
  intro n
  induction n with
  | zero => intro a b h; omega
  | succ n ih =>
    intro a b ha
    have hk := cutS_kids a
    by_cases hab : a.toList = b.toList
    · have hab' : a = b := by
        rw [Lib.toList_data, Lib.toList_data] at hab
        rw [← B_data a, ← B_data b, hab]
      rw [hab', leS_refl]
      refine Ev.step (f := fun _ => some true) (fun k => ?_) (Ev.now _)
      rw [below_under.f, if_pos rfl]
    · refine Ev.step (f := fun k => (term_Cut.f k a).bind fun x => (term_Cut.f k b).bind fun y => if x.1 = 0 then some true else if x.1 = y.1 then (if x.1 = 2 then (if x.2.1 = y.2.1 then slices_EqualFunc.f (below_under.f k) k x.2.2.1 y.2.2.1 else some false) else some false) else some false) (fun k => by rw [below_under.f, if_neg hab]) ?_
      refine Ev.bind (cut_ev2 a) (Ev.bind (cut_ev2 b) ?_)
      have la := cutS_leaf a
      have lb := cutS_leaf b
      have hka := cutS_kids a
      have hkb := cutS_kids b
      rw [leS]
      by_cases c0 : (cutS a).1 = 0
      · simp only [if_pos c0]; exact Ev.now _
      · simp only [if_neg c0]
        by_cases c1 : (cutS a).1 = (cutS b).1
        · simp only [if_pos c1]
          by_cases c2 : (cutS a).1 = 2
          · simp only [if_pos c2]
            by_cases c3 : (cutS a).2.1 = (cutS b).2.1
            · simp only [if_pos c3]
              by_cases c4 : (cutS a).2.2.1.length = (cutS b).2.2.1.length
              · rw [if_pos ⟨c1, c3, c4⟩]
                obtain ⟨K, hK⟩ := ev_all (fun k (i : Nat) => if h : i < (cutS a).2.2.1.length ∧ i < (cutS b).2.2.1.length then below_under.f k ((cutS a).2.2.1[i]'h.1) ((cutS b).2.2.1[i]'h.2) else some true) (fun i => if h : i < (cutS a).2.2.1.length ∧ i < (cutS b).2.2.1.length then leS n ((cutS a).2.2.1[i]'h.1) ((cutS b).2.2.1[i]'h.2) else true) (List.range (cutS a).2.2.1.length) (fun i hi => by
                  have h1 : i < (cutS a).2.2.1.length := List.mem_range.1 hi
                  have h2 : i < (cutS b).2.2.1.length := by omega
                  simp only [dif_pos (And.intro h1 h2)]
                  exact ih _ _ (by have := hka.2.1 ((cutS a).2.2.1[i]) (List.getElem_mem h1); omega))
                refine ⟨max K 5, fun k hk => ?_⟩
                show slices_EqualFunc.f (below_under.f k) k _ _ = _
                unfold slices_EqualFunc.f
                rw [if_pos (by omega)]
                refine eqf_l0 (below_under.f k) (leS n) _ _ c4 hka.1 (fun i h1 h2 => ?_) _ 0 k (Nat.zero_add _) (by have := hka.1; omega)
                have := hK k (by omega) i (List.mem_range.2 h1)
                simp only [dif_pos (And.intro h1 h2)] at this
                exact this
              · rw [if_neg (fun h => c4 h.2.2)]
                refine ⟨0, fun k _ => ?_⟩
                show slices_EqualFunc.f (below_under.f k) k _ _ = _
                unfold slices_EqualFunc.f
                rw [if_neg (by omega)]
            · simp only [if_neg c3]
              rw [if_neg (fun h => c3 h.2.1)]
              exact Ev.now _
          · simp only [if_neg c2]
            rw [if_neg]
            · exact Ev.now _
            · rintro ⟨_, h2, _⟩
              apply hab
              have : a = b := by
                rcases la.2.2 with h | h | h | h
                · exact absurd h c0
                · rw [la.1 h, lb.1 (c1.symm.trans h), h2]
                · exact absurd h c2
                · rw [la.2.1 h, lb.2.1 (c1.symm.trans h)]
              rw [this]
        · simp only [if_neg c1]
          rw [if_neg (fun h => c1 h.1)]
          exact Ev.now _
/-! P3.1 -/
def isS (a b : ByteArray) : Bool × Int := if mayS a = true ∧ mayS b = true then (leS (a.size + 1) a b, 0) else (false, 300)
theorem is_ev (a b : ByteArray) : Ev (fun k => below_Is.f k a b) (isS a b) := by
  unfold below_Is.f isS
  refine Ev.bind (may_ev a) ?_
  by_cases c1 : mayS a = true
  · simp only [if_pos c1]
    refine Ev.bind (may_ev b) ?_
    by_cases c2 : mayS b = true
    · simp only [if_pos c2]
      rw [if_pos ⟨c1, c2⟩]
      exact Ev.bind (under_ev _ a b (Nat.lt_succ_self _)) (Ev.now _)
    · simp only [if_neg c2]
      rw [if_neg (fun h => c2 h.2)]
      exact Ev.now _
  · simp only [if_neg c1]
    rw [if_neg (fun h => c1 h.1)]
    exact Ev.now _
theorem refBelow_ev (a b : ByteArray) : Ev (fun k => sleuthref1_Below.f k a b) (isS a b) := by
  unfold sleuthref1_Below.f isS
  refine Ev.bind (refMay_ev a) ?_
  by_cases c1 : mayS a = true
  · simp only [if_pos c1]
    refine Ev.bind (refMay_ev b) ?_
    by_cases c2 : mayS b = true
    · simp only [if_pos c2]
      rw [if_pos ⟨c1, c2⟩]
      exact Ev.bind (less_ev _ a b (Nat.lt_succ_self _)) (Ev.now _)
    · simp only [if_neg c2]
      rw [if_neg (fun h => c2 h.2)]
      exact Ev.now _
  · simp only [if_neg c1]
    rw [if_neg (fun h => c1 h.1)]
    exact Ev.now _
theorem num_ev (x : Int) : Ev (fun _ => sleuthlaw0_Num.f x) x := Ev.now _
theorem awake_ev : Ev (fun k => sleuthlaw3_awake.f k) true := by
  unfold sleuthlaw3_awake.f
  refine Ev.bind (is_ev _ _) (Ev.bind (is_ev _ _) (Ev.bind (is_ev _ _) (Ev.bind (is_ev _ _) ?_)))
  have e1 : isS (⟨#[64, 49, 40, 95, 32, 53, 41]⟩ : ByteArray) (⟨#[64, 49, 40, 64, 50, 32, 53, 41]⟩ : ByteArray) = (true, 0) := by kernel_rfl
  have e2 : isS (⟨#[64, 49, 40, 54, 32, 53, 41]⟩ : ByteArray) (⟨#[64, 49, 40, 95, 32, 53, 41]⟩ : ByteArray) = (false, 0) := by kernel_rfl
  have e3 : isS (⟨#[33]⟩ : ByteArray) (⟨#[95]⟩ : ByteArray) = (false, 0) := by kernel_rfl
  have e4 : isS (⟨#[63]⟩ : ByteArray) (⟨#[95]⟩ : ByteArray) = (false, 300) := by kernel_rfl
  rw [e1, e2, e3, e4]
  exact Ev.now _
end Go.Proofs.YtnoehmpmkfkgfaaDoor.G
