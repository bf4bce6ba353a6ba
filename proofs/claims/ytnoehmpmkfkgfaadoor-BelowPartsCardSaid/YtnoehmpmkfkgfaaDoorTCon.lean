import Derived.Test.YtnoehmpmkfkgfaaDoorTBelow
namespace Go.Proofs.YtnoehmpmkfkgfaaDoor.G
open Go.RowKit Go.Proofs.YtnoehmpmkfkgfaaDoorW.PrintWords Go.Proofs.YtnoehmpmkfkgfaaDoorW.PrintLast Go.Proofs.YtnoehmpmkfkgfaaDoorW.PrintMore
set_option linter.unusedVariables false
set_option linter.unusedSimpArgs false

/-! a term's text is made of its parts' texts -/
def closed (t : List UInt8) : Prop := ∀ b, t.head? = some b → b = 32 ∨ b = 41
theorem closed_nil : closed [] := fun b h => by cases h
theorem closed_32 (t : List UInt8) : closed (32 :: t) := fun b h => .inl (by simpa using h.symm)
theorem closed_41 (t : List UInt8) : closed (41 :: t) := fun b h => .inr (by simpa using h.symm)
theorem tw_app {w t : List UInt8} (hw : ∀ b ∈ w, nsep b = true) (ht : ∀ b, t.head? = some b → nsep b = false) : (w ++ t).takeWhile nsep = w ∧ (w ++ t).dropWhile nsep = t := by
  induction w with
  | nil =>
    cases t with
    | nil => exact ⟨rfl, rfl⟩
    | cons b t => have := ht b rfl; simp [List.takeWhile_cons, List.dropWhile_cons, this]
  | cons a w ih =>
    have ha := hw a (by simp)
    have := ih (fun b hb => hw b (by simp [hb]))
    simp [List.takeWhile_cons, List.dropWhile_cons, ha, this.1, this.2]
theorem tw_all (l : List UInt8) : ∀ b ∈ l.takeWhile nsep, nsep b = true := by
  induction l with
  | nil => intro b h; cases h
  | cons a l ih =>
    intro b h
    rw [List.takeWhile_cons] at h
    cases ha : nsep a with
    | true =>
      rw [ha, if_pos rfl] at h
      rcases List.mem_cons.1 h with rfl | h
      · exact ha
      · exact ih b h
    | false => rw [ha] at h; simp at h
theorem closed_nsep {t : List UInt8} (h : closed t) : ∀ b, t.head? = some b → nsep b = false := by
  intro b hb
  rcases h b hb with rfl | rfl <;> rfl
theorem closed_40 {t : List UInt8} (h : closed t) : t.head? ≠ some 40 := by
  intro hb
  rcases h 40 hb with e | e <;> exact absurd e (by decide)
theorem kidsL_swap (f : List UInt8 → Option TR) (hs : ∀ p t t' r, f (p ++ t) = some r → r.2.2.2 = t → closed t' → f (p ++ t') = some (r.1, r.2.1, r.2.2.1, t')) (hf : ∀ l r, f l = some r → ∃ p, l = p ++ r.2.2.2) (x : Int) :
    ∀ (m : Nat) (ks : List ByteArray) (p t t' : List UInt8) (r : TR), kidsL f x ks m (p ++ t) = some r → r.2.2.2 = t → kidsL f x ks m (p ++ t') = some (r.1, r.2.1, r.2.2.1, t') := by
  intro m
  induction m with
  | zero => intro ks p t t' r h; cases h
  | succ m ih =>
    intro ks p t t' r h ht
    rw [kidsL] at h
    cases hl : f (p ++ t) with
    | none => rw [hl] at h; cases h
    | some q =>
      rw [hl] at h
      obtain ⟨p1, hp1⟩ := hf _ q hl
      have htake : (p ++ t).take ((p ++ t).length - q.2.2.2.length) = p1 := by
        rw [hp1, List.length_append, Nat.add_sub_cancel, List.take_left']
        rfl
      have h : (if q.2.2.2.head? = some 32 then kidsL f x (ks ++ [B ((p ++ t).take ((p ++ t).length - q.2.2.2.length))]) m q.2.2.2.tail else if q.2.2.2.head? = some 41 then some (2, x, ks ++ [B ((p ++ t).take ((p ++ t).length - q.2.2.2.length))], q.2.2.2.tail) else none) = some r := h
      rw [htake] at h
      by_cases c : q.2.2.2.head? = some 32
      · rw [if_pos c] at h
        obtain ⟨p2, hp2⟩ := kidsL_suf f hf x _ _ _ _ h
        rw [ht] at hp2
        have hq : q.2.2.2 = 32 :: (p2 ++ t) := by rw [head_tail c, hp2]
        have hpp : p = p1 ++ 32 :: p2 := by
          rw [hq] at hp1
          apply List.append_cancel_right (bs := t)
          rw [hp1]; simp
        have hfq := hs p1 q.2.2.2 (32 :: (p2 ++ t')) q (by rw [← hp1]; exact hl) rfl (closed_32 _)
        have hl' : p ++ t' = p1 ++ 32 :: (p2 ++ t') := by rw [hpp]; simp
        rw [hp2] at h
        have := ih _ p2 t t' r h ht
        rw [kidsL, hl', hfq]
        show (if (some 32 : Option UInt8) = some 32 then kidsL f x (ks ++ [B ((p1 ++ 32 :: (p2 ++ t')).take ((p1 ++ 32 :: (p2 ++ t')).length - (32 :: (p2 ++ t')).length))]) m (p2 ++ t') else _) = _
        rw [if_pos rfl, List.length_append, Nat.add_sub_cancel, List.take_left' rfl]
        exact this
      · rw [if_neg c] at h
        by_cases c2 : q.2.2.2.head? = some 41
        · rw [if_pos c2] at h
          obtain rfl := Option.some.inj h
          have ht : q.2.2.2.tail = t := ht
          have hq : q.2.2.2 = 41 :: t := by rw [head_tail c2, ht]
          have hpp : p = p1 ++ [41] := by
            rw [hq] at hp1
            apply List.append_cancel_right (bs := t)
            rw [hp1]; simp
          have hfq := hs p1 q.2.2.2 (41 :: t') q (by rw [← hp1]; exact hl) rfl (closed_41 _)
          have hl' : p ++ t' = p1 ++ 41 :: t' := by rw [hpp]; simp
          rw [kidsL, hl', hfq]
          show (if (some 41 : Option UInt8) = some 32 then _ else if (some 41 : Option UInt8) = some 41 then some ((2 : Int), x, ks ++ [B ((p1 ++ 41 :: t').take ((p1 ++ 41 :: t').length - (41 :: t').length))], t') else _) = _
          rw [if_neg (by decide), if_pos rfl, List.length_append, Nat.add_sub_cancel, List.take_left' rfl]
        · rw [if_neg c2] at h; cases h
theorem spT_swap : ∀ (n : Nat) (p t t' : List UInt8) (r : TR), spT n (p ++ t) = some r → r.2.2.2 = t → closed t' → spT n (p ++ t') = some (r.1, r.2.1, r.2.2.1, t') := by
  intro n
  induction n with
  | zero => intro p t t' r h; cases h
  | succ n ih =>
    intro p t t' r h ht hc
    rw [spT] at h
    have hw := tw_dw (p ++ t)
    have hall := tw_all (p ++ t)
    generalize hW : (p ++ t).takeWhile nsep = W at h hw hall
    generalize hD : (p ++ t).dropWhile nsep = D at h hw
    have leaf : D = t → W = p := fun e => by
      rw [e] at hw
      exact (List.append_cancel_right hw).symm
    have new : D = t → (p ++ t').takeWhile nsep = W ∧ (p ++ t').dropWhile nsep = t' := fun e => by
      rw [← leaf e]
      exact tw_app hall (closed_nsep hc)
    rw [spT]
    by_cases c1 : W = [95]
    · rw [if_pos c1] at h; obtain rfl := Option.some.inj h
      obtain ⟨e1, e2⟩ := new ht
      rw [e1, e2, if_pos c1]
    · rw [if_neg c1] at h
      by_cases c2 : W = [33]
      · rw [if_pos c2] at h; obtain rfl := Option.some.inj h
        obtain ⟨e1, e2⟩ := new ht
        rw [e1, e2, if_neg c1, if_pos c2]
      · rw [if_neg c2] at h
        cases hn : numC W with
        | some x =>
          rw [hn] at h; obtain rfl := Option.some.inj h
          obtain ⟨e1, e2⟩ := new ht
          rw [e1, e2, if_neg c1, if_neg c2, hn]
        | none =>
          rw [hn] at h
          cases htg : tagC W with
          | none => rw [htg] at h; cases h
          | some x =>
            rw [htg] at h
            have h : (if D.head? = some 40 then kidsL (spT n) x [] 3 D.tail else some (2, x, [], D)) = some r := h
            by_cases c3 : D.head? = some 40
            · rw [if_pos c3] at h
              obtain ⟨p2, hp2⟩ := kidsL_suf (spT n) (spT_suf n) x _ _ _ _ h
              rw [ht] at hp2
              have hq : D = 40 :: (p2 ++ t) := by rw [head_tail c3, hp2]
              have hpp : p = W ++ 40 :: p2 := by
                rw [hq] at hw
                apply List.append_cancel_right (bs := t)
                rw [hw]; simp
              have hl' : p ++ t' = W ++ 40 :: (p2 ++ t') := by rw [hpp]; simp
              obtain ⟨e1, e2⟩ := tw_app (w := W) (t := 40 :: (p2 ++ t')) hall (fun b hb => by obtain rfl : 40 = b := by simpa using hb
                                                                                              rfl)
              rw [hp2] at h
              have := kidsL_swap (spT n) ih (spT_suf n) x 3 [] p2 t t' r h ht
              rw [hl', e1, e2, if_neg c1, if_neg c2, hn, htg]
              show (if (some 40 : Option UInt8) = some 40 then kidsL (spT n) x [] 3 (p2 ++ t') else _) = _
              rw [if_pos rfl]
              exact this
            · rw [if_neg c3] at h; obtain rfl := Option.some.inj h
              obtain ⟨e1, e2⟩ := new ht
              rw [e1, e2, if_neg c1, if_neg c2, hn, htg]
              show (if t'.head? = some 40 then _ else some ((2 : Int), x, ([] : List ByteArray), t')) = _
              rw [if_neg (closed_40 hc)]

/-! fuel enough -/
theorem kidsL_congr (f g : List UInt8 → Option TR) (hf : ∀ l r, f l = some r → ∃ p, l = p ++ r.2.2.2) (x : Int) : ∀ (m : Nat) (ks : List ByteArray) (l : List UInt8) (r : TR), (∀ l' : List UInt8, l'.length ≤ l.length → ∀ q, f l' = some q → g l' = some q) → kidsL f x ks m l = some r → kidsL g x ks m l = some r := by
  intro m
  induction m with
  | zero => intro ks l r _ h; cases h
  | succ m ih =>
    intro ks l r hg h
    rw [kidsL] at h
    cases hl : f l with
    | none => rw [hl] at h; cases h
    | some q =>
      rw [hl] at h
      rw [kidsL, hg l (Nat.le_refl _) q hl]
      obtain ⟨p1, hp1⟩ := hf _ q hl
      have hlen : l.length = p1.length + q.2.2.2.length := by conv => lhs; rw [hp1, List.length_append]
      have h : (if q.2.2.2.head? = some 32 then kidsL f x (ks ++ [B (l.take (l.length - q.2.2.2.length))]) m q.2.2.2.tail else if q.2.2.2.head? = some 41 then some (2, x, ks ++ [B (l.take (l.length - q.2.2.2.length))], q.2.2.2.tail) else none) = some r := h
      show (if q.2.2.2.head? = some 32 then kidsL g x (ks ++ [B (l.take (l.length - q.2.2.2.length))]) m q.2.2.2.tail else if q.2.2.2.head? = some 41 then some (2, x, ks ++ [B (l.take (l.length - q.2.2.2.length))], q.2.2.2.tail) else none) = some r
      by_cases c : q.2.2.2.head? = some 32
      · rw [if_pos c] at h ⊢
        exact ih _ _ _ (fun l' hl' => hg l' (by rw [List.length_tail] at hl'; omega)) h
      · rw [if_neg c] at h ⊢
        exact h
theorem spT_enough : ∀ (n : Nat) (l : List UInt8) (r : TR), spT n l = some r → ∀ m, l.length < m → spT m l = some r := by
  intro n
  induction n with
  | zero => intro l r h; cases h
  | succ n ih =>
    intro l r h m hm
    cases m with
    | zero => omega
    | succ m =>
      rw [spT] at h ⊢
      have hw := tw_dw l
      have hlen : l.length = (l.takeWhile nsep).length + (l.dropWhile nsep).length := by conv => lhs; rw [hw, List.length_append]
      by_cases c1 : l.takeWhile nsep = [95]
      · rw [if_pos c1] at h ⊢; exact h
      · rw [if_neg c1] at h ⊢
        by_cases c2 : l.takeWhile nsep = [33]
        · rw [if_pos c2] at h ⊢; exact h
        · rw [if_neg c2] at h ⊢
          cases hn : numC (l.takeWhile nsep) with
          | some x => rw [hn] at h; exact h
          | none =>
            rw [hn] at h
            cases ht : tagC (l.takeWhile nsep) with
            | none => rw [ht] at h; cases h
            | some x =>
              rw [ht] at h
              have h : (if (l.dropWhile nsep).head? = some 40 then kidsL (spT n) x [] 3 (l.dropWhile nsep).tail else some (2, x, [], l.dropWhile nsep)) = some r := h
              show (if (l.dropWhile nsep).head? = some 40 then kidsL (spT m) x [] 3 (l.dropWhile nsep).tail else some (2, x, [], l.dropWhile nsep)) = some r
              by_cases c3 : (l.dropWhile nsep).head? = some 40
              · rw [if_pos c3] at h ⊢
                have hlb : (l.dropWhile nsep).length = (l.dropWhile nsep).tail.length + 1 := by
                  conv => lhs; rw [head_tail c3]
                  rfl
                exact kidsL_congr (spT n) (spT m) (spT_suf n) x 3 [] _ r (fun l' hl' q hq => ih l' q hq m (by omega)) h
              · rw [if_neg c3] at h ⊢; exact h

/-! the shape -/
def joinK : List ByteArray → List UInt8
  | [] => []
  | [k] => k.data.toList
  | k :: k2 :: ks => k.data.toList ++ 32 :: joinK (k2 :: ks)
theorem joinK_cons (k : ByteArray) {ks : List ByteArray} (h : ks ≠ []) : joinK (k :: ks) = k.data.toList ++ 32 :: joinK ks := by
  cases ks with
  | nil => exact absurd rfl h
  | cons a t => rfl
def conL (x : Int) (ks : List ByteArray) : List UInt8 := 64 :: (itoaK x ++ if ks = [] then [] else 40 :: (joinK ks ++ [41]))
theorem kidsL_shape (f : List UInt8 → Option TR) (hs : ∀ p t t' r, f (p ++ t) = some r → r.2.2.2 = t → closed t' → f (p ++ t') = some (r.1, r.2.1, r.2.2.1, t')) (hf : ∀ l r, f l = some r → ∃ p, l = p ++ r.2.2.2) (x : Int) :
    ∀ (m : Nat) (ks : List ByteArray) (l : List UInt8) (r : TR), kidsL f x ks m l = some r → ∃ new, new ≠ [] ∧ new.length ≤ m ∧ r.1 = 2 ∧ r.2.1 = x ∧ r.2.2.1 = ks ++ new ∧ l = joinK new ++ 41 :: r.2.2.2 ∧ ∀ k ∈ new, ∃ q, f k.data.toList = some q ∧ q.2.2.2 = [] := by
  intro m
  induction m with
  | zero => intro ks l r h; cases h
  | succ m ih =>
    intro ks l r h
    rw [kidsL] at h
    cases hl : f l with
    | none => rw [hl] at h; cases h
    | some q =>
      rw [hl] at h
      obtain ⟨p1, hp1⟩ := hf _ q hl
      have htake : l.take (l.length - q.2.2.2.length) = p1 := by
        rw [hp1, List.length_append, Nat.add_sub_cancel, List.take_left']
        rfl
      have h : (if q.2.2.2.head? = some 32 then kidsL f x (ks ++ [B (l.take (l.length - q.2.2.2.length))]) m q.2.2.2.tail else if q.2.2.2.head? = some 41 then some (2, x, ks ++ [B (l.take (l.length - q.2.2.2.length))], q.2.2.2.tail) else none) = some r := h
      rw [htake] at h
      have hk : ∃ q', f (B p1).data.toList = some q' ∧ q'.2.2.2 = [] := by
        have := hs p1 q.2.2.2 [] q (by rw [← hp1]; exact hl) rfl closed_nil
        rw [List.append_nil] at this
        exact ⟨_, this, rfl⟩
      by_cases c : q.2.2.2.head? = some 32
      · rw [if_pos c] at h
        obtain ⟨new, h1, h2, h3, h4, h5, h6, h7⟩ := ih _ _ _ h
        refine ⟨B p1 :: new, by simp, by simp only [List.length_cons]; omega, h3, h4, by rw [h5]; simp, ?_, ?_⟩
        · rw [joinK_cons _ h1, B_list, List.append_assoc, List.cons_append, ← h6, ← head_tail c]; exact hp1
        · intro k hk'
          rcases List.mem_cons.1 hk' with rfl | hk'
          · exact hk
          · exact h7 k hk'
      · rw [if_neg c] at h
        by_cases c2 : q.2.2.2.head? = some 41
        · rw [if_pos c2] at h
          obtain rfl := Option.some.inj h
          refine ⟨[B p1], by simp, by simp, rfl, rfl, rfl, ?_, ?_⟩
          · show l = (B p1).data.toList ++ 41 :: q.2.2.2.tail
            rw [B_list, ← head_tail c2]; exact hp1
          · intro k hk'
            rw [List.mem_singleton] at hk'
            rw [hk']; exact hk
        · rw [if_neg c2] at h; cases h
theorem tagC_text {w : List UInt8} {x : Int} (h : tagC w = some x) : w = 64 :: itoaK x ∧ 0 ≤ x ∧ x ≤ 99 := by
  unfold tagC at h
  split at h
  · rename_i d
    cases hd : decC d with
    | none => rw [hd] at h; cases h
    | some y =>
      rw [hd] at h
      have h : (if y ≤ 99 then some (y : Int) else none) = some x := h
      by_cases hy : y ≤ 99
      · rw [if_pos hy] at h
        obtain rfl := Option.some.inj h
        refine ⟨?_, by omega, by omega⟩
        unfold itoaK
        rw [if_neg (by omega), show ((y : Int)).toNat = y by omega, decC_text hd]
      · rw [if_neg hy] at h; cases h
  · cases h
theorem tagC_of (x : Int) (h0 : 0 ≤ x) (h1 : x ≤ 99) : tagC (64 :: itoaK x) = some x := by
  unfold itoaK
  rw [if_neg (by omega)]
  show (match decC (digK 20 x.toNat) with | some x => if x ≤ 99 then some (x : Int) else none | none => none) = some x
  rw [decC_digK _ (by omega)]
  show (if x.toNat ≤ 99 then some (x.toNat : Int) else none) = some x
  rw [if_pos (by omega)]
  congr 1; omega
theorem itoaK_nsep (x : Int) (h0 : -32768 ≤ x) (h1 : x ≤ 32767) : itoaK x ≠ [] ∧ ∀ b ∈ itoaK x, nsep b = true := by
  unfold itoaK
  by_cases c : x < 0
  · rw [if_pos c]
    refine ⟨by simp, fun b hb => ?_⟩
    rcases List.mem_cons.1 hb with rfl | hb
    · rfl
    · exact dig_nsep ((digK_20 x.natAbs (by omega)).2.2 b hb)
  · rw [if_neg c]
    exact ⟨(digK_20 x.toNat (by omega)).1, fun b hb => dig_nsep ((digK_20 x.toNat (by omega)).2.2 b hb)⟩
/-- a text that is a term, whole -/
def wholeT (l : List UInt8) (r : TR) : Prop := spT (l.length + 1) l = some r ∧ r.2.2.2 = []
theorem wholeT_of {n : Nat} {l : List UInt8} {r : TR} (h : spT n l = some r) (h0 : r.2.2.2 = []) : wholeT l r := ⟨spT_enough n l r h _ (Nat.lt_succ_self _), h0⟩
theorem shape {l : List UInt8} {r : TR} (h : wholeT l r) :
    (r.1 = 0 ∧ l = [95] ∧ r.2.1 = 0 ∧ r.2.2.1 = []) ∨ (r.1 = 3 ∧ l = [33] ∧ r.2.1 = 0 ∧ r.2.2.1 = []) ∨ (r.1 = 1 ∧ l = itoaK r.2.1 ∧ r.2.2.1 = [] ∧ -32768 ≤ r.2.1 ∧ r.2.1 ≤ 32767) ∨
    (r.1 = 2 ∧ l = conL r.2.1 r.2.2.1 ∧ 0 ≤ r.2.1 ∧ r.2.1 ≤ 99 ∧ r.2.2.1.length ≤ 3 ∧ ∀ k ∈ r.2.2.1, ∃ q, wholeT k.data.toList q) := by
  obtain ⟨h, h0⟩ := h
  rw [spT] at h
  have hw := tw_dw l
  generalize hW : l.takeWhile nsep = W at h hw
  generalize hD : l.dropWhile nsep = D at h hw
  by_cases c1 : W = [95]
  · rw [if_pos c1] at h; obtain rfl := Option.some.inj h
    have h0 : D = [] := h0
    exact .inl ⟨rfl, by rw [hw, c1, h0]; rfl, rfl, rfl⟩
  · rw [if_neg c1] at h
    by_cases c2 : W = [33]
    · rw [if_pos c2] at h; obtain rfl := Option.some.inj h
      have h0 : D = [] := h0
      exact .inr (.inl ⟨rfl, by rw [hw, c2, h0]; rfl, rfl, rfl⟩)
    · rw [if_neg c2] at h
      cases hn : numC W with
      | some x =>
        rw [hn] at h; obtain rfl := Option.some.inj h
        have h0 : D = [] := h0
        obtain ⟨_, e, g1, g2⟩ := num_some hn
        exact .inr (.inr (.inl ⟨rfl, by show l = itoaK x; rw [e, hw, h0, List.append_nil], rfl, g1, g2⟩))
      | none =>
        rw [hn] at h
        cases ht : tagC W with
        | none => rw [ht] at h; cases h
        | some x =>
          rw [ht] at h
          obtain ⟨hWx, g1, g2⟩ := tagC_text ht
          have h : (if D.head? = some 40 then kidsL (spT l.length) x [] 3 D.tail else some (2, x, [], D)) = some r := h
          by_cases c3 : D.head? = some 40
          · rw [if_pos c3] at h
            obtain ⟨new, h1, h2, h3, h4, h5, h6, h7⟩ := kidsL_shape (spT l.length) (spT_swap _) (spT_suf _) x _ _ _ _ h
            rw [List.nil_append] at h5
            refine .inr (.inr (.inr ⟨h3, ?_, by rw [h4]; exact g1, by rw [h4]; exact g2, by rw [h5]; exact h2, fun k hk => ?_⟩))
            · rw [h0] at h6
              rw [hw, head_tail c3, h6, h4, h5, hWx]
              unfold conL
              rw [if_neg h1]
              simp
            · rw [h5] at hk
              obtain ⟨q, hq, hq0⟩ := h7 k hk
              exact ⟨q, wholeT_of hq hq0⟩
          · rw [if_neg c3] at h; obtain rfl := Option.some.inj h
            have h0 : D = [] := h0
            refine .inr (.inr (.inr ⟨rfl, ?_, g1, g2, by simp, fun k hk => by cases hk⟩))
            rw [hw, h0, hWx]
            show _ = 64 :: (itoaK x ++ if ([] : List ByteArray) = [] then [] else _)
            rw [if_pos rfl, List.append_nil]; simp
/-! and back -/
theorem kidsL_build (n : Nat) (x : Int) : ∀ (new : List ByteArray) (m : Nat) (ks : List ByteArray) (t : List UInt8), new ≠ [] → new.length ≤ m → (∀ k ∈ new, ∃ q, spT n k.data.toList = some q ∧ q.2.2.2 = []) → kidsL (spT n) x ks m (joinK new ++ 41 :: t) = some (2, x, ks ++ new, t) := by
  intro new
  induction new with
  | nil => intro m ks t h; exact absurd rfl h
  | cons k new ih =>
    intro m ks t _ hm hk
    cases m with
    | zero => simp at hm
    | succ m =>
      obtain ⟨q, hq, hq0⟩ := hk k (by simp)
      by_cases c : new = []
      · subst c
        have := spT_swap n k.data.toList [] (41 :: t) q (by rw [List.append_nil]; exact hq) hq0 (closed_41 _)
        rw [kidsL]
        show (match spT n (k.data.toList ++ 41 :: t) with | none => none | some r => _) = _
        rw [this]
        show (if (some 41 : Option UInt8) = some 32 then _ else if (some 41 : Option UInt8) = some 41 then some ((2 : Int), x, ks ++ [B ((k.data.toList ++ 41 :: t).take ((k.data.toList ++ 41 :: t).length - (41 :: t).length))], t) else _) = _
        rw [if_neg (by decide), if_pos rfl, List.length_append, Nat.add_sub_cancel, List.take_left' rfl, B_data]
      · have e : joinK (k :: new) ++ 41 :: t = k.data.toList ++ 32 :: (joinK new ++ 41 :: t) := by rw [joinK_cons _ c]; simp
        have := spT_swap n k.data.toList [] (32 :: (joinK new ++ 41 :: t)) q (by rw [List.append_nil]; exact hq) hq0 (closed_32 _)
        rw [kidsL, e, this]
        show (if (some 32 : Option UInt8) = some 32 then kidsL (spT n) x (ks ++ [B ((k.data.toList ++ 32 :: (joinK new ++ 41 :: t)).take ((k.data.toList ++ 32 :: (joinK new ++ 41 :: t)).length - (32 :: (joinK new ++ 41 :: t)).length))]) m (joinK new ++ 41 :: t) else _) = _
        rw [if_pos rfl, List.length_append, Nat.add_sub_cancel, List.take_left' rfl, B_data, ih m (ks ++ [k]) t c (by simp only [List.length_cons] at hm; omega) (fun k' hk' => hk k' (by simp [hk']))]
        simp
theorem joinK_len {k : ByteArray} : ∀ {ks : List ByteArray}, k ∈ ks → k.size ≤ (joinK ks).length := by
  intro ks
  induction ks with
  | nil => intro h; cases h
  | cons a ks ih =>
    intro h
    by_cases c : ks = []
    · subst c
      rw [List.mem_singleton] at h
      rw [h]; exact Nat.le_of_eq (Lib.size_eq a)
    · rw [joinK_cons _ c, List.length_append, List.length_cons]
      rcases List.mem_cons.1 h with rfl | h
      · have : k.size = k.data.toList.length := Lib.size_eq k
        omega
      · have := ih h; omega
theorem conL_whole (x : Int) (ks : List ByteArray) (h0 : 0 ≤ x) (h1 : x ≤ 99) (h3 : ks.length ≤ 3) (hk : ∀ k ∈ ks, ∃ q, wholeT k.data.toList q) : wholeT (conL x ks) (2, x, ks, []) := by
  refine wholeT_of (n := (conL x ks).length + 1) ?_ rfl
  have hns := itoaK_nsep x (by omega) (by omega)
  have hall : ∀ b ∈ (64 : UInt8) :: itoaK x, nsep b = true := by
    intro b hb
    rcases List.mem_cons.1 hb with rfl | hb
    · rfl
    · exact hns.2 b hb
  have n1 : ¬ (64 :: itoaK x = ([95] : List UInt8)) := by intro e; have := (List.cons.inj e).1; exact absurd this (by decide)
  have n2 : ¬ (64 :: itoaK x = ([33] : List UInt8)) := by intro e; have := (List.cons.inj e).1; exact absurd this (by decide)
  have n3 : numC (64 :: itoaK x) = none := by
    rw [numC_plain (fun d e => absurd (List.cons.inj e).1 (by decide))]
    cases hd : decC (64 :: itoaK x) with
    | none => rfl
    | some v =>
      have := decFrom_dig (decC_some hd).2.1 64 (by simp)
      exact absurd this (by decide)
  by_cases c : ks = []
  · have e : conL x ks = (64 :: itoaK x) ++ [] := by unfold conL; rw [if_pos c]; simp
    obtain ⟨e1, e2⟩ := tw_app (w := 64 :: itoaK x) (t := []) hall (fun b hb => by cases hb)
    rw [spT, e, e1, e2, if_neg n1, if_neg n2, n3, tagC_of x h0 h1]
    show (if (none : Option UInt8) = some 40 then _ else some ((2 : Int), x, ([] : List ByteArray), ([] : List UInt8))) = _
    rw [if_neg (by decide), c]
  · have e : conL x ks = (64 :: itoaK x) ++ 40 :: (joinK ks ++ 41 :: []) := by unfold conL; rw [if_neg c]; simp
    obtain ⟨e1, e2⟩ := tw_app (w := 64 :: itoaK x) (t := 40 :: (joinK ks ++ 41 :: [])) hall (fun b hb => by obtain rfl : 40 = b := by simpa using hb
                                                                                                            rfl)
    have hlen : (joinK ks).length < (conL x ks).length := by rw [e]; simp only [List.length_append, List.length_cons]; omega
    rw [spT, e, e1, e2, if_neg n1, if_neg n2, n3, tagC_of x h0 h1, ← e]
    show (if (some 40 : Option UInt8) = some 40 then kidsL (spT (conL x ks).length) x [] 3 (joinK ks ++ 41 :: []) else _) = _
    rw [if_pos rfl]
    exact kidsL_build _ x ks 3 [] [] c h3 (fun k hk' => by
      obtain ⟨q, hq, hq0⟩ := hk k hk'
      refine ⟨q, spT_enough _ _ q hq _ ?_, hq0⟩
      have := joinK_len hk'
      have e2 : k.size = k.data.toList.length := Lib.size_eq k
      omega)

/-! the texts -/
theorem cutL_of {l : List UInt8} {r : TR} (h : wholeT l r) (hl : l.length ≤ 1024) : cutL l = (r.1, r.2.1, r.2.2.1, 0) := by
  unfold cutL
  rw [if_neg (by omega), h.1]
  show (if r.2.2.2 = [] then _ else _) = _
  rw [if_pos h.2]
theorem cutL_ok {l : List UInt8} (h : (cutL l).2.2.2 = 0) : l.length ≤ 1024 ∧ ∃ r, wholeT l r ∧ cutL l = (r.1, r.2.1, r.2.2.1, 0) := by
  unfold cutL at h
  by_cases c : l.length > 1024
  · rw [if_pos c] at h; exact absurd h (by decide)
  · rw [if_neg c] at h
    cases hs : spT (l.length + 1) l with
    | none => rw [hs] at h; exact absurd h (by decide)
    | some r =>
      rw [hs] at h
      have h : (if r.2.2.2 = [] then (r.1, r.2.1, r.2.2.1, 0) else noCut).2.2.2 = 0 := h
      by_cases c2 : r.2.2.2 = []
      · exact ⟨by omega, r, ⟨hs, c2⟩, cutL_of ⟨hs, c2⟩ (by omega)⟩
      · rw [if_neg c2] at h; exact absurd h (by decide)
theorem mayS_of {s : ByteArray} {r : TR} (h : wholeT s.data.toList r) (hl : s.size ≤ 1024) : mayS s = true := by
  unfold mayS cutS
  rw [cutL_of h (by rw [← Lib.size_eq]; exact hl)]
  rfl
theorem mayS_ok {s : ByteArray} (h : mayS s = true) : s.size ≤ 1024 ∧ ∃ r, wholeT s.data.toList r ∧ cutS s = (r.1, r.2.1, r.2.2.1, 0) := by
  unfold mayS at h
  have h := of_decide_eq_true h
  obtain ⟨h1, h2⟩ := cutL_ok h
  exact ⟨by rw [Lib.size_eq]; exact h1, h2⟩
theorem itoaK_inj {x y : Int} (h0 : -32768 ≤ x) (h1 : x ≤ 32767) (h2 : -32768 ≤ y) (h3 : y ≤ 32767) (h : itoaK x = itoaK y) : x = y := by
  have := num_of x h0 h1
  rw [h, num_of y h2 h3] at this
  exact (Option.some.inj this).symm
/-- what a text that may be is, by its kind -/
theorem cut_shape {s : ByteArray} (h : mayS s = true) :
    ((cutS s).1 = 0 ∧ s = B [95] ∧ (cutS s).2.1 = 0 ∧ (cutS s).2.2.1 = []) ∨ ((cutS s).1 = 3 ∧ s = B [33] ∧ (cutS s).2.1 = 0 ∧ (cutS s).2.2.1 = []) ∨
    ((cutS s).1 = 1 ∧ s = B (itoaK (cutS s).2.1) ∧ (cutS s).2.2.1 = [] ∧ -32768 ≤ (cutS s).2.1 ∧ (cutS s).2.1 ≤ 32767) ∨
    ((cutS s).1 = 2 ∧ s = B (conL (cutS s).2.1 (cutS s).2.2.1) ∧ 0 ≤ (cutS s).2.1 ∧ (cutS s).2.1 ≤ 99 ∧ (cutS s).2.2.1.length ≤ 3 ∧ ∀ k ∈ (cutS s).2.2.1, mayS k = true) := by
  obtain ⟨hl, r, hr, he⟩ := mayS_ok h
  have hk := cutS_kids s
  rw [he] at hk ⊢
  dsimp only at hk ⊢
  have hs : ∀ l, s.data.toList = l → s = B l := fun l e => by rw [← e, B_data]
  rcases shape hr with ⟨a, b, c, d⟩ | ⟨a, b, c, d⟩ | ⟨a, b, c, d, e⟩ | ⟨a, b, c, d, e, f⟩
  · exact .inl ⟨a, hs _ b, c, d⟩
  · exact .inr (.inl ⟨a, hs _ b, c, d⟩)
  · exact .inr (.inr (.inl ⟨a, hs _ b, c, d, e⟩))
  · refine .inr (.inr (.inr ⟨a, hs _ b, c, d, e, fun k hk' => ?_⟩))
    obtain ⟨q, hq⟩ := f k hk'
    have := hk.2.1 k hk'
    exact mayS_of hq (by omega)
theorem cut_con {x : Int} {ks : List ByteArray} (h0 : 0 ≤ x) (h1 : x ≤ 99) (h3 : ks.length ≤ 3) (hk : ∀ k ∈ ks, mayS k = true) (hl : (conL x ks).length ≤ 1024) : cutS (B (conL x ks)) = (2, x, ks, 0) := by
  unfold cutS
  rw [B_list]
  exact cutL_of (conL_whole x ks h0 h1 h3 (fun k hk' => by
    obtain ⟨_, r, hr, _⟩ := mayS_ok (hk k hk')
    exact ⟨r, hr⟩)) hl

/-! the order -/
theorem allB_le : ∀ (f g : ByteArray → ByteArray → Bool) (xs ys : List ByteArray), (∀ x ∈ xs, ∀ y, f x y = g x y) → allB f xs ys = allB g xs ys
  | f, g, [], ys, _ => by cases ys <;> rfl
  | f, g, x :: xs, [], _ => rfl
  | f, g, x :: xs, y :: ys, h => by
    rw [allB, allB, h x (by simp) y, allB_le f g xs ys (fun z hz => h z (by simp [hz]))]
theorem leS_fuel : ∀ (n : Nat) (a b : ByteArray) (m : Nat), a.size < n → a.size < m → leS n a b = leS m a b := by
  intro n
  induction n with
  | zero => intro a b m h; omega
  | succ n ih =>
    intro a b m hn hm
    cases m with
    | zero => omega
    | succ m =>
      rw [leS, leS]
      have hk := cutS_kids a
      rw [allB_le (leS n) (leS m) _ _ (fun x hx y => ih x y m (by have := hk.2.1 x hx; omega) (by have := hk.2.1 x hx; omega))]
def leT (a b : ByteArray) : Bool := leS (a.size + 1) a b
theorem leT_eq (a b : ByteArray) : leT a b = if (cutS a).1 = 0 then true else if (cutS a).1 = (cutS b).1 ∧ (cutS a).2.1 = (cutS b).2.1 ∧ (cutS a).2.2.1.length = (cutS b).2.2.1.length then allB leT (cutS a).2.2.1 (cutS b).2.2.1 else false := by
  unfold leT
  rw [leS]
  have hk := cutS_kids a
  rw [allB_le (leS a.size) (fun a b => leS (a.size + 1) a b) _ _ (fun x hx y => leS_fuel _ x y _ (by have := hk.2.1 x hx; omega) (by omega))]
theorem leT_refl (a : ByteArray) : leT a a = true := leS_refl _ a
theorem allB_trans (f : ByteArray → ByteArray → Bool) : ∀ (xs ys zs : List ByteArray), (∀ x ∈ xs, ∀ y z, f x y = true → f y z = true → f x z = true) → xs.length = ys.length → allB f xs ys = true → allB f ys zs = true → allB f xs zs = true
  | [], _, zs, _, _, _, _ => by cases zs <;> rfl
  | x :: xs, [], zs, _, h, _, _ => by cases h
  | x :: xs, y :: ys, [], _, _, _, _ => rfl
  | x :: xs, y :: ys, z :: zs, h, hl, h1, h2 => by
    rw [allB, Bool.and_eq_true] at h1 h2 ⊢
    exact ⟨h x (by simp) y z h1.1 h2.1, allB_trans f xs ys zs (fun w hw => h w (by simp [hw])) (by simpa using hl) h1.2 h2.2⟩
theorem leT_trans : ∀ (n : Nat) (a b c : ByteArray), a.size < n → leT a b = true → leT b c = true → leT a c = true := by
  intro n
  induction n with
  | zero => intro a b c h; omega
  | succ n ih =>
    intro a b c ha hab hbc
    rw [leT_eq] at hab hbc ⊢
    have hk := cutS_kids a
    by_cases c0 : (cutS a).1 = 0
    · rw [if_pos c0]
    · rw [if_neg c0] at hab ⊢
      by_cases c1 : (cutS a).1 = (cutS b).1 ∧ (cutS a).2.1 = (cutS b).2.1 ∧ (cutS a).2.2.1.length = (cutS b).2.2.1.length
      · rw [if_pos c1] at hab
        rw [if_neg (by rw [← c1.1]; exact c0)] at hbc
        by_cases c2 : (cutS b).1 = (cutS c).1 ∧ (cutS b).2.1 = (cutS c).2.1 ∧ (cutS b).2.2.1.length = (cutS c).2.2.1.length
        · rw [if_pos c2] at hbc
          rw [if_pos ⟨c1.1.trans c2.1, c1.2.1.trans c2.2.1, c1.2.2.trans c2.2.2⟩]
          exact allB_trans leT _ _ _ (fun x hx y z h1 h2 => ih x y z (by have := hk.2.1 x hx; omega) h1 h2) c1.2.2 hab hbc
        · rw [if_neg c2] at hbc; cases hbc
      · rw [if_neg c1] at hab; cases hab
theorem allB_antisymm (f : ByteArray → ByteArray → Bool) : ∀ (xs ys : List ByteArray), (∀ x ∈ xs, ∀ y ∈ ys, f x y = true → f y x = true → x = y) → xs.length = ys.length → allB f xs ys = true → allB f ys xs = true → xs = ys
  | [], [], _, _, _, _ => rfl
  | [], y :: ys, _, h, _, _ => by cases h
  | x :: xs, [], _, h, _, _ => by cases h
  | x :: xs, y :: ys, h, hl, h1, h2 => by
    rw [allB, Bool.and_eq_true] at h1 h2
    rw [h x (by simp) y (by simp) h1.1 h2.1, allB_antisymm f xs ys (fun a ha b hb => h a (by simp [ha]) b (by simp [hb])) (by simpa using hl) h1.2 h2.2]
theorem leT_antisymm : ∀ (n : Nat) (a b : ByteArray), a.size < n → mayS a = true → mayS b = true → leT a b = true → leT b a = true → a = b := by
  intro n
  induction n with
  | zero => intro a b h; omega
  | succ n ih =>
    intro a b ha hma hmb hab hba
    have hk := cutS_kids a
    rw [leT_eq] at hab hba
    have sa := cut_shape hma
    have sb := cut_shape hmb
    have hz : (cutS a).1 = (cutS b).1 := by
      by_cases c0 : (cutS a).1 = 0
      · by_cases c1 : (cutS b).1 = 0
        · rw [c0, c1]
        · rw [if_neg c1] at hba
          by_cases c2 : (cutS b).1 = (cutS a).1 ∧ (cutS b).2.1 = (cutS a).2.1 ∧ (cutS b).2.2.1.length = (cutS a).2.2.1.length
          · exact c2.1.symm
          · rw [if_neg c2] at hba; cases hba
      · rw [if_neg c0] at hab
        by_cases c2 : (cutS a).1 = (cutS b).1 ∧ (cutS a).2.1 = (cutS b).2.1 ∧ (cutS a).2.2.1.length = (cutS b).2.2.1.length
        · exact c2.1
        · rw [if_neg c2] at hab; cases hab
    by_cases c0 : (cutS a).1 = 0
    · rcases sa with h | h | h | h
      · rcases sb with g | g | g | g
        · rw [h.2.1, g.2.1]
        all_goals (exfalso; have := g.1; omega)
      all_goals (exfalso; have := h.1; omega)
    · rw [if_neg c0] at hab
      rw [if_neg (by omega)] at hba
      by_cases c1 : (cutS a).1 = (cutS b).1 ∧ (cutS a).2.1 = (cutS b).2.1 ∧ (cutS a).2.2.1.length = (cutS b).2.2.1.length
      · rw [if_pos c1] at hab
        rw [if_pos ⟨c1.1.symm, c1.2.1.symm, c1.2.2.symm⟩] at hba
        rcases sa with h | h | h | h
        · exact absurd h.1 c0
        · rcases sb with g | g | g | g
          · exfalso; have := g.1; have := h.1; omega
          · rw [h.2.1, g.2.1]
          all_goals (exfalso; have := g.1; have := h.1; omega)
        · rcases sb with g | g | g | g
          · exfalso; have := g.1; have := h.1; omega
          · exfalso; have := g.1; have := h.1; omega
          · rw [h.2.1, g.2.1, c1.2.1]
          · exfalso; have := g.1; have := h.1; omega
        · rcases sb with g | g | g | g
          · exfalso; have := g.1; have := h.1; omega
          · exfalso; have := g.1; have := h.1; omega
          · exfalso; have := g.1; have := h.1; omega
          · have hkids : (cutS a).2.2.1 = (cutS b).2.2.1 := allB_antisymm leT _ _ (fun x hx y hy h1 h2 => ih x y (by have := hk.2.1 x hx; omega) (h.2.2.2.2.2 x hx) (g.2.2.2.2.2 y hy) h1 h2) c1.2.2 hab hba
            rw [h.2.1, g.2.1, c1.2.1, hkids]
      · rw [if_neg c1] at hab; cases hab
end Go.Proofs.YtnoehmpmkfkgfaaDoor.G
