import Derived.Test.YtnoehmpmkfkgfaaDoorTCut
namespace Go.Proofs.YtnoehmpmkfkgfaaDoor.G
open Go.RowKit Go.Proofs.YtnoehmpmkfkgfaaDoorW.PrintWords Go.Proofs.YtnoehmpmkfkgfaaDoorW.PrintLast Go.Proofs.YtnoehmpmkfkgfaaDoorW.PrintMore
set_option linter.unusedVariables false
set_option linter.unusedSimpArgs false

/-! the document's own reading -/
abbrev RR := Int × Int × List ByteArray × Int
def RefEv (s : List UInt8) (a : Nat) (g : Nat → Option RR) (o : Option TR) : Prop :=
  match o with
  | some r => Ev g (r.1, r.2.1, r.2.2.1, ((s.length - r.2.2.2.length : Nat) : Int))
  | none => ∃ x y z d, Ev g (x, y, z, d) ∧ (d = -1 ∨ ∃ t : Nat, ∃ h : t < s.length, d = (t : Int) ∧ a ≤ t ∧ nsep s[t] = true)
theorem RefEv.succ {s : List UInt8} {a : Nat} {g : Nat → Option RR} {o : Option TR} (k : RefEv s a (fun k => g (k + 1)) o) : RefEv s a g o := by
  cases o with
  | some r => exact Ev.step (fun _ => rfl) k
  | none => obtain ⟨x, y, z, d, k, h⟩ := k; exact ⟨x, y, z, d, Ev.step (fun _ => rfl) k, h⟩
theorem RefEv.bind {s : List UInt8} {a : Nat} {β : Type} {g : Nat → Option β} {f : Nat → β → Option RR} {o : Option TR} {b : β} (h : Ev g b) (k : RefEv s a (fun n => f n b) o) : RefEv s a (fun n => (g n).bind (f n)) o := by
  cases o with
  | some r => exact Ev.bind h k
  | none => obtain ⟨x, y, z, d, k, h'⟩ := k; exact ⟨x, y, z, d, Ev.bind h k, h'⟩
theorem RefEv.bad {s : List UInt8} {a : Nat} : RefEv s a (fun _ => (sleuthref1_bad.f).bind fun b => some (b.1, b.2.1, b.2.2.1, b.2.2.2)) none := ⟨0, 0, [], -1, Ev.now _, .inl rfl⟩
theorem nummay_eq (x : Int) : sleuthref1_NumMay.f x = some (decide (-32768 ≤ x ∧ x ≤ 32767)) := by
  unfold sleuthref1_NumMay.f sleuthref1_upTo.f
  by_cases c : x ≥ -32768
  · rw [if_pos c]
    show some (decide (x ≤ 32767)) = _
    congr 1
    by_cases c2 : x ≤ 32767
    · rw [decide_eq_true c2, decide_eq_true ⟨c, c2⟩]
    · rw [decide_eq_false c2, decide_eq_false (fun h => c2 h.2)]
  · rw [if_neg c]
    show some false = _
    rw [decide_eq_false (fun h => c h.1)]
theorem nsep_ne {b : UInt8} (h : nsep b = true) : b ≠ 32 ∧ b ≠ 40 ∧ b ≠ 41 := by
  refine ⟨?_, ?_, ?_⟩ <;> (rintro rfl; revert h; decide)
theorem bt_ne {s : List UInt8} {t : Nat} {c : UInt8} (h : t < s.length) (hc : s[t] ≠ c) : ¬ bt (B s) (t : Int) = (c.toNat : Int) := by
  rw [B_bt s t h]
  intro e
  exact hc (UInt8.toNat_inj.1 (by omega))
theorem bt_eq {s : List UInt8} {t : Nat} {c : UInt8} (h : t < s.length) (hc : s[t] = c) : bt (B s) (t : Int) = (c.toNat : Int) := by rw [B_bt s t h, hc]
theorem ref_parts (s : List UInt8) (hs : s.length ≤ 1024) (n : Nat) (x : Int) (ih : ∀ a : Nat, a ≤ s.length → s.length - a < n → RefEv s a (fun j => sleuthref1_term.f j (B s) (a : Int)) (spT n (s.drop a))) (a0 : Nat) :
    ∀ (m : Nat) (ks : List ByteArray) (a : Nat) (tq : Int), ks.length + m = 3 → a ≤ s.length → s.length - a < n → RefEv s a0 (fun j => sleuthref1_parts.l0 j (B s) (a : Int) 2 x ks tq) (kidsL (spT n) x ks m (s.drop a)) := by
  intro m
  induction m with
  | zero =>
    intro ks a tq h3 ha hn
    apply RefEv.succ
    have c1 : ¬ ((ks.length : Int) < 3) := by omega
    simp only [sleuthref1_parts.l0, if_neg c1]
    exact RefEv.bad
  | succ m ihm =>
    intro ks a tq h3 ha hn
    have hr := ih a ha hn
    apply RefEv.succ
    have c1 : (ks.length : Int) < 3 := by omega
    simp only [sleuthref1_parts.l0, if_pos c1]
    rw [kidsL]
    have hc0 : (0 : Int) ≤ (a : Int) := by omega
    have hkl : ks.length < 8796093022208 := by omega
    cases hsp : spT n (s.drop a) with
    | none =>
      rw [hsp] at hr
      obtain ⟨y1, y2, y3, d, hev, hd⟩ := hr
      refine RefEv.bind hev ?_
      rcases hd with rfl | ⟨t, ht, rfl, hat, hns⟩
      · simp only [if_pos (show (-1 : Int) < 0 by decide)]
        apply RefEv.succ
        simp only [sleuthref1_parts.j1, if_pos]
        exact RefEv.bad
      · have c2 : ¬ ((t : Int) < 0) := by omega
        have c3 : ¬ ((t : Int) ≥ ((B s).size : Int)) := by rw [B_size]; omega
        have c4 : (a : Int) ≤ (t : Int) := by omega
        have c5 : (t : Int) ≤ ((B s).size : Int) := by rw [B_size]; omega
        have c6 : (0 : Int) ≤ (t : Int) := by omega
        have c7 : (t : Int) < ((B s).size : Int) := by rw [B_size]; omega
        have c8 : ¬ bt (B s) (t : Int) = 41 := bt_ne ht (nsep_ne hns).2.2
        have c9 : ¬ bt (B s) (t : Int) = 32 := bt_ne ht (nsep_ne hns).1
        simp only [if_neg c2, decide_eq_false c3]
        apply RefEv.succ
        simp only [sleuthref1_parts.j1, if_neg (show ¬ (false = true) by decide), if_pos hc0, if_pos c4, if_pos c5, if_pos hkl, Option.bind_some, if_pos c6, if_pos c7, if_neg c8, if_neg c9]
        exact RefEv.bad
    | some r =>
      rw [hsp] at hr
      have hev : Ev (fun j => sleuthref1_term.f j (B s) (a : Int)) (r.1, r.2.1, r.2.2.1, ((s.length - r.2.2.2.length : Nat) : Int)) := hr
      refine RefEv.bind hev ?_
      obtain ⟨p, hp⟩ := spT_suf n _ r hsp
      have hlen : s.length - a = p.length + r.2.2.2.length := by rw [← List.length_drop, hp, List.length_append]
      obtain ⟨t, ht⟩ : ∃ t, s.length - r.2.2.2.length = t := ⟨_, rfl⟩
      have hta : t = a + p.length := by omega
      have hdrop : s.drop t = r.2.2.2 := by
        rw [hta, ← List.drop_drop, hp]
        simp
      have hkid : (s.drop a).take ((s.drop a).length - r.2.2.2.length) = (s.take t).drop a := by
        rw [List.length_drop, show s.length - a - r.2.2.2.length = t - a by omega, List.drop_take]
      rw [ht]
      have c2 : ¬ ((t : Int) < 0) := by omega
      simp only [if_neg c2]
      show RefEv s a0 _ (if r.2.2.2.head? = some 32 then kidsL (spT n) x (ks ++ [B ((s.drop a).take ((s.drop a).length - r.2.2.2.length))]) m r.2.2.2.tail else if r.2.2.2.head? = some 41 then some (2, x, ks ++ [B ((s.drop a).take ((s.drop a).length - r.2.2.2.length))], r.2.2.2.tail) else none)
      rw [hkid]
      by_cases c3 : (t : Int) ≥ ((B s).size : Int)
      · have hnil : r.2.2.2 = [] := by
          rw [← hdrop]; exact List.drop_eq_nil_of_le (by rw [B_size] at c3; omega)
        simp only [decide_eq_true c3]
        rw [hnil]
        apply RefEv.succ
        simp only [sleuthref1_parts.j1, if_pos]
        exact RefEv.bad
      · have htl : t < s.length := by rw [B_size] at c3; omega
        have c4 : (a : Int) ≤ (t : Int) := by omega
        have c5 : (t : Int) ≤ ((B s).size : Int) := by rw [B_size]; omega
        have c6 : (0 : Int) ≤ (t : Int) := by omega
        have c7 : (t : Int) < ((B s).size : Int) := by rw [B_size]; omega
        have hcons : r.2.2.2 = s[t] :: s.drop (t + 1) := by rw [← hdrop]; exact List.drop_eq_getElem_cons htl
        have hkidB : (B s).extract (a : Int).toNat (t : Int).toNat = B ((s.take t).drop a) := by rw [B_extract]; rfl
        rw [hcons, List.head?_cons, List.tail_cons]
        simp only [decide_eq_false c3]
        apply RefEv.succ
        have hw : wrap64 ((t : Int) + 1) = ((t + 1 : Nat) : Int) := by rw [w64 (by omega) (by omega)]; omega
        by_cases e1 : s[t] = 32
        · have c8 : ¬ bt (B s) (t : Int) = 41 := bt_ne (c := 41) htl (by rw [e1]; decide)
          have c9 : bt (B s) (t : Int) = 32 := bt_eq htl e1
          simp only [sleuthref1_parts.j1, if_neg (show ¬ (false = true) by decide), if_pos hc0, if_pos c4, if_pos c5, if_pos hkl, Option.bind_some, if_pos c6, if_pos c7, if_neg c8, if_pos c9, hkidB, hw]
          rw [if_pos (by rw [e1])]
          clear hw
          exact ihm _ (t + 1) tq (by simp only [List.length_append, List.length_cons, List.length_nil]; omega) (by omega) (by omega)
        · rw [if_neg (by simpa using e1)]
          by_cases e2 : s[t] = 41
          · have c8 : bt (B s) (t : Int) = 41 := bt_eq htl e2
            simp only [sleuthref1_parts.j1, if_neg (show ¬ (false = true) by decide), if_pos hc0, if_pos c4, if_pos c5, if_pos hkl, Option.bind_some, if_pos c6, if_pos c7, if_pos c8, hkidB, hw]
            rw [if_pos (by rw [e2])]
            clear hw
            have hl2 : s.length - (s.drop (t + 1)).length = t + 1 := by rw [List.length_drop]; omega
            show Ev _ (2, x, _, ((s.length - (s.drop (t + 1)).length : Nat) : Int))
            rw [hl2]
            exact Ev.now _
          · have c8 : ¬ bt (B s) (t : Int) = 41 := bt_ne htl e2
            have c9 : ¬ bt (B s) (t : Int) = 32 := bt_ne htl e1
            simp only [sleuthref1_parts.j1, if_neg (show ¬ (false = true) by decide), if_pos hc0, if_pos c4, if_pos c5, if_pos hkl, Option.bind_some, if_pos c6, if_pos c7, if_neg c8, if_neg c9]
            rw [if_neg (by simpa using e2)]
            exact RefEv.bad
theorem RefEv.eta {s : List UInt8} {a : Nat} {g : Nat → Option RR} {o : Option TR} (k : RefEv s a g o) : RefEv s a (fun n => (g n).bind fun b => some (b.1, b.2.1, b.2.2.1, b.2.2.2)) o := by
  have e : (fun n => (g n).bind fun b => some (b.1, b.2.1, b.2.2.1, b.2.2.2)) = g := by
    funext n
    cases g n with
    | none => rfl
    | some r => rfl
  rw [e]; exact k
theorem decC_nd {c : UInt8} {w : List UInt8} (h : isDig c = false) : decC (c :: w) = none := by
  cases hd : decC (c :: w) with
  | none => rfl
  | some v =>
    have := (decFrom_cons (decC_some hd).2.1).1
    rw [h] at this; cases this
theorem decC_nil : decC [] = none := rfl
theorem tw_pos {c : UInt8} (l : List UInt8) (h : nsep c = true) : (c :: l).takeWhile nsep = c :: l.takeWhile nsep ∧ (c :: l).dropWhile nsep = l.dropWhile nsep := by
  rw [List.takeWhile_cons, List.dropWhile_cons, h]
  exact ⟨rfl, rfl⟩
theorem tagC_ne {w : List UInt8} (h : ∀ d, w ≠ 64 :: d) : tagC w = none := by
  unfold tagC
  split
  · rename_i d; exact absurd rfl (h d)
  · rfl
theorem numC_nd {c : UInt8} {w : List UInt8} (h : isDig c = false) (h45 : c ≠ 45) : numC (c :: w) = none := by
  rw [numC_plain (fun d e => h45 (List.cons.inj e).1), decC_nd h]
theorem dig_at {s : List UInt8} {b : Nat} (hb : b ≤ s.length) (h : decC ((s.drop b).takeWhile nsep) = none) : (dig0 (s.drop b)).2 = 0 ∨ ∃ hh : b + (dig0 (s.drop b)).2 < s.length, nsep (s[b + (dig0 (s.drop b)).2]) = true := by
  rcases dig0_none h with h | ⟨hh, h⟩
  · exact .inl h
  · refine .inr ⟨by rw [List.length_drop] at hh; omega, ?_⟩
    rw [List.getElem_drop] at h
    exact h
theorem tw_at {s : List UInt8} {b : Nat} (h : (s.drop b).takeWhile nsep ≠ []) : ∃ hh : b < s.length, nsep s[b] = true := by
  by_cases hb : b < s.length
  · refine ⟨hb, ?_⟩
    rw [List.drop_eq_getElem_cons hb, List.takeWhile_cons] at h
    cases hn : nsep s[b] with
    | true => rfl
    | false => rw [hn] at h; simp at h
  · rw [List.drop_eq_nil_of_le (by omega)] at h; exact absurd rfl h
theorem dig_small (l : List UInt8) : (dig0 l).1 < 1000000 ∧ (dig0 l).2 ≤ 6 := by
  have h := digL_bound (l.head? == some 48) l 0 0 (by decide) (by omega)
  exact ⟨Nat.lt_of_lt_of_le h.1 (p10_le h.2), h.2⟩
theorem ref_term (s : List UInt8) (hs : s.length ≤ 1024) : ∀ (n a : Nat), a ≤ s.length → s.length - a < n → RefEv s a (fun j => sleuthref1_term.f j (B s) (a : Int)) (spT n (s.drop a)) := by
  intro n
  induction n with
  | zero => intro a _ h; omega
  | succ n ih =>
    intro a ha hn
    by_cases hl : s.length ≤ a
    · have c1 : (a : Int) ≥ ((B s).size : Int) := by rw [B_size]; omega
      rw [List.drop_eq_nil_of_le hl]
      have e : spT (n + 1) [] = none := rfl
      rw [e]
      apply RefEv.succ
      simp only [sleuthref1_term.f, if_pos c1]
      exact RefEv.bad
    · have hal : a < s.length := by omega
      have f1 : ¬ ((a : Int) ≥ ((B s).size : Int)) := by rw [B_size]; omega
      have f2 : (0 : Int) ≤ (a : Int) := by omega
      have f3 : (a : Int) < ((B s).size : Int) := by rw [B_size]; omega
      have f4 : (a : Int) ≤ ((B s).size : Int) := by rw [B_size]; omega
      have f5 : (0 : Int) ≤ ((a + 1 : Nat) : Int) := by omega
      have f6 : ((a + 1 : Nat) : Int) ≤ ((B s).size : Int) := by rw [B_size]; omega
      have hx1 := Aside0.mk (show wrap64 ((a : Int) + 1) = ((a + 1 : Nat) : Int) by rw [w64 (by omega) (by omega)]; omega)
      have hex : (B s).extract ((a + 1 : Nat) : Int).toNat (B s).size = B (s.drop (a + 1)) := B_tail s (a + 1)
      have hcons : s.drop a = s[a] :: s.drop (a + 1) := List.drop_eq_getElem_cons hal
      have hds := dig_small (s.drop (a + 1))
      have hdev := digits_ev (s.drop (a + 1)) (by rw [List.length_drop]; omega)
      have hadd : ∀ k : Nat, k ≤ 1024 → wrap64 (((a + 1 : Nat) : Int) + (k : Int)) = ((a + 1 + k : Nat) : Int) := fun k hk => by rw [w64 (by omega) (by omega)]; omega
      apply RefEv.succ
      by_cases e95 : s[a] = 95
      · have hb : bt (B s) (a : Int) = 95 := bt_eq hal e95
        simp only [sleuthref1_term.f, if_neg f1, if_pos f2, if_pos f3, if_pos hb, hx1.out]
        rw [hcons, e95, spT, (tw_pos _ (by decide)).1, (tw_pos _ (by decide)).2]
        by_cases hw : (s.drop (a + 1)).takeWhile nsep = []
        · rw [hw, if_pos rfl]
          have e : (s.drop (a + 1)).dropWhile nsep = s.drop (a + 1) := by
            have := tw_dw (s.drop (a + 1))
            rw [hw] at this
            exact this.symm
          rw [e]
          show Ev _ (0, 0, _, ((s.length - (s.drop (a + 1)).length : Nat) : Int))
          rw [List.length_drop, show s.length - (s.length - (a + 1)) = a + 1 by omega]
          exact Ev.now _
        · rw [if_neg (by simpa using hw), if_neg (by simp), numC_nd (by decide) (by decide), tagC_ne (fun d => by simp)]
          obtain ⟨hh, hns⟩ := tw_at hw
          exact ⟨_, _, _, _, Ev.now _, .inr ⟨a + 1, hh, rfl, by omega, hns⟩⟩
      · have hb95 : ¬ bt (B s) (a : Int) = 95 := bt_ne hal e95
        by_cases e33 : s[a] = 33
        · have hb : bt (B s) (a : Int) = 33 := bt_eq hal e33
          simp only [sleuthref1_term.f, if_neg f1, if_pos f2, if_pos f3, if_neg hb95, if_pos hb, hx1.out]
          rw [hcons, e33, spT, (tw_pos _ (by decide)).1, (tw_pos _ (by decide)).2]
          by_cases hw : (s.drop (a + 1)).takeWhile nsep = []
          · rw [hw, if_neg (by decide), if_pos rfl]
            have e : (s.drop (a + 1)).dropWhile nsep = s.drop (a + 1) := by
              have := tw_dw (s.drop (a + 1))
              rw [hw] at this
              exact this.symm
            rw [e]
            show Ev _ (3, 0, _, ((s.length - (s.drop (a + 1)).length : Nat) : Int))
            rw [List.length_drop, show s.length - (s.length - (a + 1)) = a + 1 by omega]
            exact Ev.now _
          · rw [if_neg (by simp), if_neg (by simpa using hw), numC_nd (by decide) (by decide), tagC_ne (fun d => by simp)]
            obtain ⟨hh, hns⟩ := tw_at hw
            exact ⟨_, _, _, _, Ev.now _, .inr ⟨a + 1, hh, rfl, by omega, hns⟩⟩
        · have hb33 : ¬ bt (B s) (a : Int) = 33 := bt_ne hal e33
          by_cases e64 : s[a] = 64
          · have hb : bt (B s) (a : Int) = 64 := bt_eq hal e64
            simp only [sleuthref1_term.f, if_neg f1, if_pos f2, if_pos f3, if_neg hb95, if_neg hb33, if_pos hb, hx1.out, if_pos f5, if_pos f6, hex]
            refine RefEv.bind hdev ?_
            rw [hcons, e64, spT, (tw_pos _ (by decide)).1, (tw_pos _ (by decide)).2, if_neg (by simp), if_neg (by simp), numC_nd (by decide) (by decide)]
            obtain ⟨w', hw'⟩ : ∃ w', (s.drop (a + 1)).takeWhile nsep = w' := ⟨_, rfl⟩
            show RefEv s a _ (match tagC (64 :: (s.drop (a + 1)).takeWhile nsep) with | none => none | some x => if ((s.drop (a + 1)).dropWhile nsep).head? = some 40 then kidsL (spT n) x [] 3 ((s.drop (a + 1)).dropWhile nsep).tail else some (2, x, [], (s.drop (a + 1)).dropWhile nsep))
            rw [hw']
            cases hd : decC w' with
            | some v =>
              have hdig := dig0_some (l := s.drop (a + 1)) (by rw [hw']; exact hd)
              rw [hw'] at hdig
              have h1 := (decC_some hd).1
              have h6 := (decC_some hd).2.2.2
              have hk0 : ¬ ((w'.length : Int) = 0) := by
                intro e; exact h1 (List.length_eq_zero_iff.1 (by omega))
              rw [hdig]
              dsimp only
              simp only [if_neg hk0]
              by_cases hv : v ≤ 99
              · have htag : tagC (64 :: w') = some (v : Int) := by
                  show (match decC w' with | some x => if x ≤ 99 then some (x : Int) else none | none => none) = _
                  rw [hd]; exact if_pos hv
                rw [htag]
                have hvf : ¬ ((v : Int) > 99) := by omega
                simp only [decide_eq_false hvf]
                apply RefEv.succ
                obtain ⟨T, hT⟩ : ∃ T, a + 1 + w'.length = T := ⟨_, rfl⟩
                have hdw : (s.drop (a + 1)).dropWhile nsep = s.drop T := by rw [← drop_takeWhile, hw', List.drop_drop, hT]
                rw [hdw]
                have hle : w'.length ≤ (s.drop (a + 1)).length := by rw [← hw']; exact (List.takeWhile_prefix nsep).length_le
                have hTs : T ≤ s.length := by rw [List.length_drop] at hle; omega
                have hx2 := Aside0.mk (hadd w'.length (by omega))
                rw [hT] at hx2
                have hx3 := Aside0.mk (show wrap64 ((T : Int) + 1) = ((T + 1 : Nat) : Int) by rw [w64 (by omega) (by omega)]; omega)
                show RefEv s a _ (if (s.drop T).head? = some 40 then kidsL (spT n) v [] 3 (s.drop T).tail else some (2, (v : Int), [], s.drop T))
                by_cases hTl : T < s.length
                · have g1 : (T : Int) < ((B s).size : Int) := by rw [B_size]; omega
                  have g2 : (0 : Int) ≤ (T : Int) := by omega
                  by_cases e40 : s[T] = 40
                  · have g3 : bt (B s) (T : Int) = 40 := bt_eq hTl e40
                    simp only [sleuthref1_term.j0, if_neg (show ¬ (false = true) by decide), hx1.out, hx2.out, if_pos g1, if_pos g2, if_pos g3, hx3.out]
                    rw [List.drop_eq_getElem_cons hTl, e40, List.head?_cons, if_pos rfl, List.tail_cons]
                    refine RefEv.eta ?_
                    apply RefEv.succ
                    simp only [sleuthref1_parts.f]
                    exact ref_parts s hs n v ih a 3 [] (T + 1) _ rfl (by omega) (by omega)
                  · have g3 : ¬ bt (B s) (T : Int) = 40 := bt_ne hTl e40
                    simp only [sleuthref1_term.j0, if_neg (show ¬ (false = true) by decide), hx1.out, hx2.out, if_pos g1, if_pos g2, if_neg g3]
                    rw [if_neg (by rw [List.drop_eq_getElem_cons hTl, List.head?_cons]; simpa using e40)]
                    show Ev _ (2, (v : Int), _, ((s.length - (s.drop T).length : Nat) : Int))
                    rw [List.length_drop, show s.length - (s.length - T) = T by omega]
                    exact Ev.now _
                · have g1 : ¬ ((T : Int) < ((B s).size : Int)) := by rw [B_size]; omega
                  simp only [sleuthref1_term.j0, if_neg (show ¬ (false = true) by decide), hx1.out, hx2.out, if_neg g1]
                  rw [if_neg (by rw [List.drop_eq_nil_of_le (by omega)]; simp)]
                  show Ev _ (2, (v : Int), _, ((s.length - (s.drop T).length : Nat) : Int))
                  rw [List.length_drop, show s.length - (s.length - T) = T by omega]
                  exact Ev.now _
              · have htag : tagC (64 :: w') = none := by
                  show (match decC w' with | some x => if x ≤ 99 then some (x : Int) else none | none => none) = _
                  rw [hd]; exact if_neg hv
                rw [htag]
                simp only [decide_eq_true (show (v : Int) > 99 by omega)]
                apply RefEv.succ
                simp only [sleuthref1_term.j0, if_pos]
                exact RefEv.bad
            | none =>
              have htag : tagC (64 :: w') = none := by
                show (match decC w' with | some x => if x ≤ 99 then some (x : Int) else none | none => none) = _
                rw [hd]
              rw [htag]
              have hda := dig_at (s := s) (b := a + 1) (by omega) (by rw [hw']; exact hd)
              obtain ⟨⟨x, k⟩, hxk⟩ : ∃ q, dig0 (s.drop (a + 1)) = q := ⟨_, rfl⟩
              rw [hxk] at hda hds ⊢
              dsimp only at hda hds ⊢
              by_cases hk0 : k = 0
              · subst hk0
                simp only [if_pos (show ((0 : Nat) : Int) = 0 from rfl)]
                apply RefEv.succ
                simp only [sleuthref1_term.j0, if_pos]
                exact RefEv.bad
              · obtain ⟨hh, hns⟩ := hda.resolve_left hk0
                simp only [if_neg (show ¬ ((k : Int) = 0) by omega)]
                by_cases hx : (x : Int) > 99
                · simp only [decide_eq_true hx]
                  apply RefEv.succ
                  simp only [sleuthref1_term.j0, if_pos]
                  exact RefEv.bad
                · simp only [decide_eq_false hx]
                  apply RefEv.succ
                  have hx2 := Aside0.mk (hadd k (by omega))
                  have g1 : ((a + 1 + k : Nat) : Int) < ((B s).size : Int) := by rw [B_size]; omega
                  have g2 : (0 : Int) ≤ ((a + 1 + k : Nat) : Int) := by omega
                  have g3 : ¬ bt (B s) ((a + 1 + k : Nat) : Int) = 40 := bt_ne hh (nsep_ne hns).2.1
                  simp only [sleuthref1_term.j0, if_neg (show ¬ (false = true) by decide), hx1.out, hx2.out, if_pos g1, if_pos g2, if_neg g3]
                  exact ⟨_, _, _, _, Ev.now _, .inr ⟨a + 1 + k, hh, rfl, by omega, hns⟩⟩
          · have hb64 : ¬ bt (B s) (a : Int) = 64 := bt_ne hal e64
            by_cases e45 : s[a] = 45
            · have hb : bt (B s) (a : Int) = 45 := bt_eq hal e45
              simp only [sleuthref1_term.f, if_neg f1, if_pos f2, if_pos f3, if_neg hb95, if_neg hb33, if_neg hb64, if_pos hb, hx1.out, if_pos f5, if_pos f6, hex]
              refine RefEv.bind hdev ?_
              rw [hcons, e45, spT, (tw_pos _ (by decide)).1, (tw_pos _ (by decide)).2, if_neg (show ¬ ((45 : UInt8) :: (s.drop (a + 1)).takeWhile nsep = [95]) by simp), if_neg (show ¬ ((45 : UInt8) :: (s.drop (a + 1)).takeWhile nsep = [33]) by simp), tagC_ne (fun d => by simp)]
              obtain ⟨w', hw'⟩ : ∃ w', (s.drop (a + 1)).takeWhile nsep = w' := ⟨_, rfl⟩
              show RefEv s a _ (match numC (45 :: (s.drop (a + 1)).takeWhile nsep) with | some x => some (1, x, [], (s.drop (a + 1)).dropWhile nsep) | none => none)
              rw [hw']
              simp only [nummay_eq, Option.bind_some]
              cases hd : decC w' with
              | some v =>
                have hdig := dig0_some (l := s.drop (a + 1)) (by rw [hw']; exact hd)
                rw [hw'] at hdig
                have h1 := (decC_some hd).1
                have h6 := (decC_some hd).2.2.2
                have hv6 := decC_lt hd
                have hk0 : ¬ ((w'.length : Int) = 0) := by
                  intro e; exact h1 (List.length_eq_zero_iff.1 (by omega))
                rw [hdig]
                dsimp only
                simp only [if_neg hk0]
                have hnum : numC (45 :: w') = (if v ≠ 0 ∧ v ≤ 32768 then some (-(v : Int)) else none) := by
                  show (match decC w' with | some x => if x ≠ 0 ∧ x ≤ 32768 then some (-(x : Int)) else none | none => none) = _
                  rw [hd]
                rw [hnum]
                by_cases hv0 : v = 0
                · subst hv0
                  simp only [if_pos (show ((0 : Nat) : Int) = 0 from rfl)]
                  exact RefEv.bad
                · simp only [if_neg (show ¬ ((v : Int) = 0) by omega)]
                  have hneg := Aside0.mk (show wrap64 (-(v : Int)) = -(v : Int) from w64 (by omega) (by omega))
                  simp only [hneg.out]
                  by_cases hv : v ≤ 32768
                  · simp only [decide_eq_true (show -32768 ≤ -(v : Int) ∧ -(v : Int) ≤ 32767 by omega), if_pos]
                    rw [if_pos ⟨hv0, hv⟩]
                    obtain ⟨T, hT⟩ : ∃ T, a + 1 + w'.length = T := ⟨_, rfl⟩
                    have hdw : (s.drop (a + 1)).dropWhile nsep = s.drop T := by rw [← drop_takeWhile, hw', List.drop_drop, hT]
                    have hle : w'.length ≤ (s.drop (a + 1)).length := by rw [← hw']; exact (List.takeWhile_prefix nsep).length_le
                    have hTs : T ≤ s.length := by rw [List.length_drop] at hle; omega
                    rw [hdw]
                    show Ev _ (1, -(v : Int), _, ((s.length - (s.drop T).length : Nat) : Int))
                    rw [List.length_drop, show s.length - (s.length - T) = T by omega]
                    simp only [hx1.out, hadd w'.length (by omega), hT]
                    exact Ev.now _
                  · simp only [decide_eq_false (show ¬ (-32768 ≤ -(v : Int) ∧ -(v : Int) ≤ 32767) by omega), if_neg (show ¬ (false = true) by decide)]
                    rw [if_neg (fun h => hv h.2)]
                    exact RefEv.bad
              | none =>
                have hnum : numC (45 :: w') = none := by
                  show (match decC w' with | some x => if x ≠ 0 ∧ x ≤ 32768 then some (-(x : Int)) else none | none => none) = _
                  rw [hd]
                rw [hnum]
                have hda := dig_at (s := s) (b := a + 1) (by omega) (by rw [hw']; exact hd)
                obtain ⟨⟨x, k⟩, hxk⟩ : ∃ q, dig0 (s.drop (a + 1)) = q := ⟨_, rfl⟩
                rw [hxk] at hda hds ⊢
                dsimp only at hda hds ⊢
                by_cases hk0 : k = 0
                · subst hk0
                  simp only [if_pos (show ((0 : Nat) : Int) = 0 from rfl)]
                  exact RefEv.bad
                · obtain ⟨hh, hns⟩ := hda.resolve_left hk0
                  simp only [if_neg (show ¬ ((k : Int) = 0) by omega)]
                  by_cases hx0 : (x : Int) = 0
                  · simp only [if_pos hx0]; exact RefEv.bad
                  · simp only [if_neg hx0]
                    by_cases hb2 : -32768 ≤ wrap64 (-(x : Int)) ∧ wrap64 (-(x : Int)) ≤ 32767
                    · simp only [decide_eq_true hb2, if_pos]
                      clear hb2
                      simp only [hx1.out, hadd k (by omega)]
                      exact ⟨_, _, _, _, Ev.now _, .inr ⟨a + 1 + k, hh, rfl, by omega, hns⟩⟩
                    · simp only [decide_eq_false hb2, if_neg (show ¬ (false = true) by decide)]
                      exact RefEv.bad
            · have hb45 : ¬ bt (B s) (a : Int) = 45 := bt_ne hal e45
              have hex0 : (B s).extract (a : Int).toNat (B s).size = B (s.drop a) := B_tail s a
              simp only [sleuthref1_term.f, if_neg f1, if_pos f2, if_pos f3, if_neg hb95, if_neg hb33, if_neg hb64, if_neg hb45, if_pos f4, hex0]
              refine RefEv.bind (digits_ev (s.drop a) (by rw [List.length_drop]; omega)) ?_
              have hadd0 : ∀ k : Nat, k ≤ 1024 → wrap64 ((a : Int) + (k : Int)) = ((a + k : Nat) : Int) := fun k hk => by rw [w64 (by omega) (by omega)]; omega
              obtain ⟨w', hw'⟩ : ∃ w', (s.drop a).takeWhile nsep = w' := ⟨_, rfl⟩
              have hhead : ∀ (b : UInt8) (t : List UInt8), w' = b :: t → b = s[a] := by
                intro b t e
                rw [hcons, List.takeWhile_cons] at hw'
                cases hn : nsep s[a] with
                | true => rw [hn, e] at hw'; exact (List.cons.inj hw').1.symm
                | false => rw [hn, e] at hw'; cases hw'
              rw [spT, hw', if_neg (fun e => e95 (hhead _ _ e).symm), if_neg (fun e => e33 (hhead _ _ e).symm), tagC_ne (fun d e => e64 (hhead _ _ e).symm), numC_plain (fun d e => e45 (hhead _ _ e).symm)]
              simp only [nummay_eq, Option.bind_some]
              have hds0 := dig_small (s.drop a)
              cases hd : decC w' with
              | some v =>
                have hdig := dig0_some (l := s.drop a) (by rw [hw']; exact hd)
                rw [hw'] at hdig
                have h1 := (decC_some hd).1
                have h6 := (decC_some hd).2.2.2
                have hk0 : ¬ ((w'.length : Int) = 0) := by
                  intro e; exact h1 (List.length_eq_zero_iff.1 (by omega))
                rw [hdig]
                dsimp only
                simp only [if_neg hk0]
                by_cases hv : v ≤ 32767
                · simp only [decide_eq_true (show -32768 ≤ (v : Int) ∧ (v : Int) ≤ 32767 by omega), if_pos]
                  rw [if_pos hv]
                  obtain ⟨T, hT⟩ : ∃ T, a + w'.length = T := ⟨_, rfl⟩
                  have hdw : (s.drop a).dropWhile nsep = s.drop T := by rw [← drop_takeWhile, hw', List.drop_drop, hT]
                  have hle : w'.length ≤ (s.drop a).length := by rw [← hw']; exact (List.takeWhile_prefix nsep).length_le
                  have hTs : T ≤ s.length := by rw [List.length_drop] at hle; omega
                  rw [hdw]
                  show Ev _ (1, (v : Int), _, ((s.length - (s.drop T).length : Nat) : Int))
                  rw [List.length_drop, show s.length - (s.length - T) = T by omega]
                  simp only [hadd0 w'.length (by omega), hT]
                  exact Ev.now _
                · simp only [decide_eq_false (show ¬ (-32768 ≤ (v : Int) ∧ (v : Int) ≤ 32767) by omega), if_neg (show ¬ (false = true) by decide)]
                  rw [if_neg hv]
                  exact RefEv.bad
              | none =>
                have hda := dig_at (s := s) (b := a) (by omega) (by rw [hw']; exact hd)
                obtain ⟨⟨x, k⟩, hxk⟩ : ∃ q, dig0 (s.drop a) = q := ⟨_, rfl⟩
                rw [hxk] at hda hds0 ⊢
                dsimp only at hda hds0 ⊢
                by_cases hk0 : k = 0
                · subst hk0
                  simp only [if_pos (show ((0 : Nat) : Int) = 0 from rfl)]
                  exact RefEv.bad
                · obtain ⟨hh, hns⟩ := hda.resolve_left hk0
                  simp only [if_neg (show ¬ ((k : Int) = 0) by omega)]
                  by_cases hb2 : -32768 ≤ (x : Int) ∧ (x : Int) ≤ 32767
                  · simp only [decide_eq_true hb2, if_pos]
                    simp only [hadd0 k (by omega)]
                    exact ⟨_, _, _, _, Ev.now _, .inr ⟨a + k, hh, rfl, by omega, hns⟩⟩
                  · simp only [decide_eq_false hb2, if_neg (show ¬ (false = true) by decide)]
                    exact RefEv.bad
end Go.Proofs.YtnoehmpmkfkgfaaDoor.G
