/- Parts of this proof, one behind the other: NextHalf, TSess, G15, G37, G44, NextVals, G16, G17, G18, G38. -/
import Derived.Test.YtijamgfpgdiigaaGreatDoorU10
import Derived.Test.YtijamgfpgdiigaaGreatDoorG0
import Derived.Test.YtijamgfpgdiigaaGreatDoorU2
import Derived.Test.YtijamgfpgdiigaaGreatDoorU8
import Derived.Test.YtijamgfpgdiigaaGreatDoorU9
import Derived.Test.YtijamgfpgdiigaaGreatDoorU5
import Derived.Test.YtijamgfpgdiigaaGreatDoorU7
section
namespace Go.Proofs.YtijamgfpgdiigaaGreatDoor.G
open Go.RowKit Go.Proofs.YtijamgfpgdiigaaGreatDoorW.PrintWords Go.Proofs.YtijamgfpgdiigaaGreatDoorW.PrintLast Go.Proofs.YtijamgfpgdiigaaGreatDoorW.PrintMore
set_option linter.unusedVariables false
set_option linter.unusedSimpArgs false
theorem rd_ne (l : List Int) (i j : Nat) (v : Int) (h : j ≠ i) : rd (l.set i v) (j : Int) = rd l (j : Int) := by
  show List.getD _ _ _ = List.getD _ _ _
  rw [Int.toNat_natCast, List.getD_eq_getElem?_getD, List.getD_eq_getElem?_getD, List.getElem?_set, if_neg (fun e => h e.symm)]
theorem sizesL_high {ns : List Nd} (hm : mayT ns = true) (c : Int → Int) (j : Nat) : ∀ (n : Nat) (o : List Int), n ≤ j → n ≤ ns.length → rd (sizesL ns c n o) (j : Int) = rd o (j : Int)
  | 0, o, _, _ => rfl
  | n + 1, o, h, hn => by
    rw [sizesL]
    have hp := mayT_pa hm n (by omega)
    have hp' : (rn ns (n : Int)).f1 = pa ns n := rfl
    rw [sizesL_high hm c j n _ (by omega) (by omega), hp']
    by_cases c0 : 0 < n
    · rw [if_pos c0, rd_ne _ _ _ _ (by omega), rd_ne _ _ _ _ (by omega)]
    · rw [if_neg c0, rd_ne _ _ _ _ (by omega)]
theorem halves_l2 {ns : List Nd} {ms : List Int} (h : marksS ns ms = true) (w : Nat) (hw : w < ns.length) (R : Int × Int) (M : Int)
    (hR : ∀ wt : List Int, wt.length = ns.length → (∀ j : Nat, w < j → j < ns.length → rd wt (j : Int) = rd (szH ns (dbt ns ms w ns.length) ms) (j : Int)) → Ev (fun k => sleuthref12_byHalves.l3 k ns ms (w : Int) (dbt ns ms w ns.length) wt M (-1) 0 ((w + 1 : Nat) : Int)) R) :
    ∀ n : Nat, w < n → n ≤ ns.length → ∀ o wt : List Int, o.length = ns.length → wt.length = ns.length → (∀ j : Nat, j < n → 0 ≤ rd o (j : Int)) → sumTo (fun j => rd o (j : Int) + oneN ns ms w j) n ≤ 512 →
      (∀ j : Nat, w < j → j < ns.length → rd wt (j : Int) = if j < n then rd o (j : Int) + oneN ns ms w j else rd o (j : Int)) → (∀ j : Nat, w < j → j < n → rdOf false (dbt ns ms w ns.length) (j : Int) = false → rd o (j : Int) = 0) →
      sizesL ns (oneB (dbt ns ms w ns.length) ms) n o = szH ns (dbt ns ms w ns.length) ms →
      Ev (fun k => sleuthref12_byHalves.l2 k ns ms (w : Int) (dbt ns ms w ns.length) wt M ((n : Int) - 1)) R := by
  obtain ⟨hm, hl, _⟩ := marksS_spec h
  have hlen := mayT_len hm
  have hdl := dbt_len ns ms w ns.length
  intro n
  induction n with
  | zero => intro hn; omega
  | succ m ih =>
    intro hwm hmN o wt ho hwt h0 hs hrel hnd hsz
    have e1 : ((m + 1 : Nat) : Int) - 1 = (m : Int) := by omega
    rw [e1]
    by_cases c : m = w
    · subst c
      have e2 : wrap64 ((m : Int) + 1) = ((m + 1 : Nat) : Int) := by rw [w64 (by omega) (by omega)]; omega
      refine Ev.step (fun k => ?_) (hR wt hwt (fun j hj hjN => ?_))
      · rw [sleuthref12_byHalves.l2, if_neg (by omega), e2]
      · rw [hrel j hj hjN, if_neg (by omega), ← hsz, sizesL_high hm _ j (m + 1) o (by omega) (by omega)]
    · have hp := mayT_pa hm m (by omega)
      obtain ⟨p, hpp⟩ : ∃ p : Nat, pa ns m = (p : Int) := ⟨(pa ns m).toNat, by omega⟩
      have hpm : p < m := by omega
      have hp' : (rn ns (m : Int)).f1 = (p : Int) := hpp
      rw [sumTo] at hs
      have hc0 : ∀ j : Nat, 0 ≤ oneN ns ms w j ∧ oneN ns ms w j ≤ 1 := fun j => oneB_range _ _ _
      have hm0 := h0 m (by omega)
      have hcm := hc0 m
      have hsum0 := sumTo_nonneg (f := fun j => rd o (j : Int) + oneN ns ms w j) (n := m) (fun j hj => by have := h0 j (by omega); have := hc0 j; omega)
      have hq1 := sumTo_mem (f := fun j => rd o (j : Int) + oneN ns ms w j) (i := p) (n := m) (fun j hj => by have := h0 j (by omega); have := hc0 j; omega) hpm
      have hp0 := h0 p (by omega)
      have hcp := hc0 p
      have hone : oneB (dbt ns ms w ns.length) ms (m : Int) = oneN ns ms w m := rfl
      have hv : wrap64 (rd o (m : Int) + oneN ns ms w m) = rd o (m : Int) + oneN ns ms w m := w64 (by omega) (by omega)
      obtain ⟨v, hvv⟩ : ∃ v, rd o (m : Int) + oneN ns ms w m = v := ⟨_, rfl⟩
      have hv0 : 0 ≤ v := by omega
      have g1m : rd (o.set m v) (m : Int) = v := by rw [rd_setN _ _ _ _ (by omega), if_pos rfl]
      have g1p : rd (o.set m v) (p : Int) = rd o (p : Int) := rd_ne _ _ _ _ (by omega)
      have hvp : wrap64 (rd o (p : Int) + v) = rd o (p : Int) + v := w64 (by omega) (by omega)
      have g2 : ∀ j : Nat, rd ((o.set m v).set p (rd o (p : Int) + v)) (j : Int) = if j = p then rd o (p : Int) + v else if j = m then v else rd o (j : Int) := by
        intro j
        rw [rd_setN _ _ _ _ (by rw [List.length_set]; omega)]
        by_cases c1 : j = p
        · rw [if_pos c1, if_pos c1]
        · rw [if_neg c1, if_neg c1, rd_setN _ _ _ _ (by omega)]
      have hnext : sizesL ns (oneB (dbt ns ms w ns.length) ms) m ((o.set m v).set p (rd o (p : Int) + v)) = szH ns (dbt ns ms w ns.length) ms := by
        rw [sizesL] at hsz
        rw [hone, hv, hvv, if_pos (by omega), hp', Int.toNat_natCast, g1m, g1p, hvp] at hsz
        exact hsz
      have hw2 : wrap64 ((m : Int) - 1) = (m : Int) - 1 := w64 (by omega) (by omega)
      have hwm1 : rd wt (m : Int) = v := by rw [hrel m (by omega) (by omega), if_pos (by omega), hvv]
      have hs2 : sumTo (fun j => rd ((o.set m v).set p (rd o (p : Int) + v)) (j : Int) + oneN ns ms w j) m = sumTo (fun j => rd o (j : Int) + oneN ns ms w j) m + v :=
        sumTo_one hpm (fun j hj => by
          rw [g2]
          by_cases c1 : j = p
          · rw [if_pos c1, if_pos c1, c1]; omega
          · rw [if_neg c1, if_neg c1, if_neg (by omega)])
      have hn2 : ∀ j : Nat, j < m → 0 ≤ rd ((o.set m v).set p (rd o (p : Int) + v)) (j : Int) := fun j hj => by
        rw [g2]
        have := h0 j (by omega)
        split
        · omega
        · rw [if_neg (by omega)]; exact this
      have hz : rdOf false (dbt ns ms w ns.length) (m : Int) = false → v = 0 := fun hd => by
        have h1 := hnd m (by omega) (by omega) hd
        have h2 : oneN ns ms w m = 0 := by
          unfold oneN oneB openB
          rw [hd, Bool.false_and, if_neg Bool.false_ne_true]
        omega
      have hd2 : ∀ j : Nat, w < j → j < m → rdOf false (dbt ns ms w ns.length) (j : Int) = false → rd ((o.set m v).set p (rd o (p : Int) + v)) (j : Int) = 0 := fun j hj hjm hd => by
        rw [g2]
        by_cases c1 : j = p
        · rw [if_pos c1]
          subst c1
          have h1 := hnd j hj (by omega) hd
          have h2 : rdOf false (dbt ns ms w ns.length) (m : Int) = false := by
            cases hq : rdOf false (dbt ns ms w ns.length) (m : Int) with
            | false => rfl
            | true =>
              obtain ⟨_, _, _, q4⟩ := dbt_spec hm ms w ns.length (Nat.le_refl _) m hq
              rw [hpp] at q4
              rcases q4 with q4 | q4
              · omega
              · rw [hd] at q4; exact absurd q4.2 Bool.false_ne_true
          rw [h1, hz h2]; rfl
        · rw [if_neg c1, if_neg (by omega)]
          exact hnd j hj (by omega) hd
      by_cases cd : rdOf false (dbt ns ms w ns.length) (m : Int) = true ∧ (p : Int) > (w : Int)
      · have hwp1 : rd wt (p : Int) = rd o (p : Int) + oneN ns ms w p := by rw [hrel p (by omega) (by omega), if_pos (by omega)]
        have hw3 : wrap64 (rd o (p : Int) + oneN ns ms w p + v) = rd o (p : Int) + oneN ns ms w p + v := w64 (by omega) (by omega)
        refine Ev.step (f := fun k => sleuthref12_byHalves.l2 k ns ms (w : Int) (dbt ns ms w ns.length) (wt.set p (rd o (p : Int) + oneN ns ms w p + v)) M ((m : Int) - 1)) (fun k => ?_)
          (ih (by omega) (by omega) _ _ (by rw [List.length_set, List.length_set]; exact ho) (by rw [List.length_set]; exact hwt) hn2 (by rw [hs2]; omega) (fun j hj hjN => ?_) hd2 hnext)
        · have hp2 : (rd_T57 ns (m : Int)).f1 = (p : Int) := hpp
          rw [sleuthref12_byHalves.l2, if_pos (by omega), if_pos (by omega), if_pos (by omega), if_pos cd.1, if_pos (by omega), hp2, if_pos cd.2, if_pos (by omega), if_pos (by omega), if_pos (by omega), hwp1, hwm1, hw3, hw2, Int.toNat_natCast]
        · rw [rd_setN _ _ _ _ (by omega), g2]
          by_cases c1 : j = p
          · rw [if_pos c1, if_pos (by omega), if_pos c1, c1]; omega
          · rw [if_neg c1, if_neg c1, hrel j hj hjN]
            by_cases c2 : j = m
            · rw [if_pos (by omega), if_neg (by omega), if_pos c2, c2, hvv]
            · rw [if_neg c2]
              by_cases c3 : j < m
              · rw [if_pos (by omega), if_pos c3]
              · rw [if_neg (by omega), if_neg c3]
      · refine Ev.step (f := fun k => sleuthref12_byHalves.l2 k ns ms (w : Int) (dbt ns ms w ns.length) wt M ((m : Int) - 1)) (fun k => ?_)
          (ih (by omega) (by omega) _ _ (by rw [List.length_set, List.length_set]; exact ho) hwt hn2 (by rw [hs2]; omega) (fun j hj hjN => ?_) hd2 hnext)
        · have hp2 : (rd_T57 ns (m : Int)).f1 = (p : Int) := hpp
          rw [sleuthref12_byHalves.l2, if_pos (by omega), if_pos (by omega), if_pos (by omega)]
          cases hq : rdOf false (dbt ns ms w ns.length) (m : Int) with
          | false => rw [if_neg Bool.false_ne_true, hw2]
          | true => rw [if_pos rfl, if_pos (by omega), hp2, if_neg (fun hh => cd ⟨hq, hh⟩), hw2]
        · rw [g2, hrel j hj hjN]
          by_cases c1 : j = p
          · have h2 : rdOf false (dbt ns ms w ns.length) (m : Int) = false := by
              cases hq : rdOf false (dbt ns ms w ns.length) (m : Int) with
              | false => rfl
              | true => exact absurd ⟨hq, by omega⟩ cd
            rw [if_pos (by omega), if_pos (by omega), if_pos c1, hz h2, c1]; omega
          · rw [if_neg c1]
            by_cases c2 : j = m
            · rw [if_pos (by omega), if_neg (by omega), if_pos c2, c2, hvv]
            · rw [if_neg c2]
              by_cases c3 : j < m
              · rw [if_pos (by omega), if_pos c3]
              · rw [if_neg (by omega), if_neg c3]
theorem bestH_low {ns : List Nd} (hm : mayT ns = true) (ms sz : List Int) (M : Int) (w : Nat) : ∀ n : Nat, n ≤ w + 1 → bestH sz (dbt ns ms w ns.length) ms M n = -1
  | 0, _ => rfl
  | n + 1, h => by
    rw [bestH, if_neg (fun hh => by rw [oneB_low hm ms w n (by omega)] at hh; exact absurd hh.1 Bool.false_ne_true)]
    exact bestH_low hm ms sz M w n (by omega)
def offO (sz : List Int) (b M : Int) : Int := if b < 0 then 0 else offW (rd sz b) M
theorem halves_l3 {ns : List Nd} {ms : List Int} (h : marksS ns ms = true) (w : Nat) (hw : w < ns.length) (sz wt : List Int) (M : Int) (hwl : wt.length = ns.length) (hwt : ∀ j : Nat, w < j → j < ns.length → rd wt (j : Int) = rd sz (j : Int)) :
    ∀ n i : Nat, w < i → i + n = ns.length → Ev (fun k => sleuthref12_byHalves.l3 k ns ms (w : Int) (dbt ns ms w ns.length) wt M (bestH sz (dbt ns ms w ns.length) ms M i) (offO sz (bestH sz (dbt ns ms w ns.length) ms M i) M) (i : Int))
      (if bestH sz (dbt ns ms w ns.length) ms M ns.length < 0 then bugS ns ms (w : Int) else (0, bestH sz (dbt ns ms w ns.length) ms M ns.length)) := by
  obtain ⟨hm, hl, _⟩ := marksS_spec h
  have hlen := mayT_len hm
  have hdl := dbt_len ns ms w ns.length
  intro n
  induction n with
  | zero =>
    intro i hwi hi
    obtain rfl : i = ns.length := by omega
    generalize bestH sz (dbt ns ms w ns.length) ms M ns.length = b
    by_cases cb : b < 0
    · rw [if_pos cb]
      refine Ev.step (f := fun k => (sleuthref12_verdict.f k ns ms (w : Int)).bind fun bt392 => (some (bt392.1, bt392.2))) (fun k => ?_) (Ev.bind (verdict_ev h (w : Int) (by omega)) (Ev.now _))
      rw [sleuthref12_byHalves.l3, if_neg (by omega), if_neg (by omega)]
    · rw [if_neg cb]
      refine Ev.step (f := fun k => some (0, b)) (fun k => ?_) (Ev.now _)
      rw [sleuthref12_byHalves.l3, if_neg (by omega), if_pos (by omega)]
  | succ n ih =>
    intro i hwi hi
    have hw1 : wrap64 ((i : Int) + 1) = ((i + 1 : Nat) : Int) := by rw [w64 (by omega) (by omega)]; omega
    have ih' := ih (i + 1) (by omega) (by omega)
    have hwi2 := hwt i hwi (by omega)
    have hb : bestH sz (dbt ns ms w ns.length) ms M (i + 1) = if openB (dbt ns ms w ns.length) ms (i : Int) = true ∧ (bestH sz (dbt ns ms w ns.length) ms M i < 0 ∨ offW (rd sz (i : Int)) M < offW (rd sz (bestH sz (dbt ns ms w ns.length) ms M i)) M) then (i : Int) else bestH sz (dbt ns ms w ns.length) ms M i := rfl
    rw [hb] at ih'
    clear hb
    generalize bestH sz (dbt ns ms w ns.length) ms M i = b at ih' ⊢
    generalize (if bestH sz (dbt ns ms w ns.length) ms M ns.length < 0 then bugS ns ms (w : Int) else (0, bestH sz (dbt ns ms w ns.length) ms M ns.length)) = R at ih' ⊢
    by_cases co : openB (dbt ns ms w ns.length) ms (i : Int) = true
    · have co' := co
      unfold openB at co'
      rw [Bool.and_eq_true, beq_iff_eq] at co'
      have hz : (rd ms (i : Int) != 0) = false := by rw [co'.2]; rfl
      refine Ev.step (f := fun k => sleuthref12_byHalves.j4 k ns ms (w : Int) (dbt ns ms w ns.length) wt M b (offO sz b M) (i : Int) false) (fun k => ?_) ?_
      · rw [sleuthref12_byHalves.l3, if_pos (by omega), if_pos (by omega), if_pos (by omega), if_pos co'.1, if_pos (by omega), hz]
      · refine Ev.step (fun k => ?_) ih'
        have hoff : mx (wrap64 ((wrap64 (2 * (rd wt (i : Int)))) - M)) (wrap64 (M - (wrap64 (2 * (rd wt (i : Int)))))) = offW (rd sz (i : Int)) M := by rw [hwi2]; rfl
        rw [sleuthref12_byHalves.j4, if_neg Bool.false_ne_true, if_pos (by omega), if_pos (by omega), hoff, hw1]
        by_cases cb : b < 0
        · rw [if_pos cb, if_pos ⟨co, .inl cb⟩]
          unfold offO
          rw [if_neg (show ¬ (i : Int) < 0 by omega)]
        · rw [if_neg cb]
          have ho : offO sz b M = offW (rd sz b) M := by unfold offO; rw [if_neg cb]
          rw [ho]
          by_cases cl : offW (rd sz (i : Int)) M < offW (rd sz b) M
          · rw [if_pos cl, if_pos ⟨co, .inr cl⟩]
            unfold offO
            rw [if_neg (show ¬ (i : Int) < 0 by omega)]
          · rw [if_neg cl, if_neg (fun hh => hh.2.elim cb cl), ho]
    · rw [if_neg (fun hh => co hh.1)] at ih'
      have co' : ¬ (rdOf false (dbt ns ms w ns.length) (i : Int) = true ∧ rd ms (i : Int) = 0) := fun hh => co (by unfold openB; rw [hh.1, hh.2]; rfl)
      refine Ev.step (f := fun k => sleuthref12_byHalves.j4 k ns ms (w : Int) (dbt ns ms w ns.length) wt M b (offO sz b M) (i : Int) true) (fun k => ?_) (Ev.step (fun k => ?_) ih')
      · rw [sleuthref12_byHalves.l3, if_pos (by omega), if_pos (by omega), if_pos (by omega)]
        cases hq : rdOf false (dbt ns ms w ns.length) (i : Int) with
        | false => rw [if_neg Bool.false_ne_true]
        | true => rw [if_pos rfl, if_pos (by omega), show (rd ms (i : Int) != 0) = true from bne_iff_ne.2 (fun hh => co' ⟨hq, hh⟩)]
      · rw [sleuthref12_byHalves.j4, if_pos rfl, hw1]
theorem halves_l0 {ns : List Nd} {ms : List Int} (h : marksS ns ms = true) (R : Int × Int)
    (hR : Ev (fun k => sleuthref12_byHalves.l1 k ns ms (lastM ms ms.length) (List.replicate ns.length false) (List.replicate ns.length 0) 0 (wrap64 (lastM ms ms.length + 1))) R) :
    ∀ n i : Nat, i + n = ns.length → Ev (fun k => sleuthref12_byHalves.l0 k ns ms (lastM ms i) (i : Int)) R := by
  obtain ⟨hm, hl, _⟩ := marksS_spec h
  have hlen := mayT_len hm
  intro n
  induction n with
  | zero =>
    intro i hi
    obtain rfl : i = ms.length := by omega
    refine Ev.step (fun k => ?_) hR
    rw [sleuthref12_byHalves.l0, if_neg (by omega), if_pos (by omega), Int.toNat_natCast, if_pos (by omega), if_pos (by omega)]
  | succ n ih =>
    intro i hi
    have hw1 : wrap64 ((i : Int) + 1) = ((i + 1 : Nat) : Int) := by rw [w64 (by omega) (by omega)]; omega
    refine Ev.step (fun k => ?_) (ih (i + 1) (by omega))
    rw [sleuthref12_byHalves.l0, if_pos (by omega), if_pos (by omega), if_pos (by omega), hw1, lastM]
    by_cases c : rd ms (i : Int) = 2
    · rw [if_pos c, if_pos c]
    · rw [if_neg c, if_neg c]
theorem byHalves_ev {ns : List Nd} {ms : List Int} (h : marksS ns ms = true) : Ev (fun k => sleuthref12_byHalves.f k ns ms) (askH ns ms) := by
  obtain ⟨hm, hl, _⟩ := marksS_spec h
  have hlen := mayT_len hm
  unfold sleuthref12_byHalves.f
  have g : (0 : Int) < (ms.length : Int) := by omega
  simp only [if_pos g]
  by_cases c2 : rd ms 0 = 2
  · simp only [if_pos c2]
    have hr := lastM_range ms ms.length (by omega)
    obtain ⟨w, hwe⟩ : ∃ w : Nat, lastM ms ms.length = (w : Int) := ⟨(lastM ms ms.length).toNat, by omega⟩
    have hw : w < ns.length := by omega
    have e : askH ns ms = if bestH (szH ns (dbt ns ms w ns.length) ms) (dbt ns ms w ns.length) ms (sumTo (oneN ns ms w) ns.length) ns.length < 0 then bugS ns ms (w : Int) else (0, bestH (szH ns (dbt ns ms w ns.length) ms) (dbt ns ms w ns.length) ms (sumTo (oneN ns ms w) ns.length) ns.length) := by
      unfold askH
      rw [if_pos c2, hwe, Int.toNat_natCast, half_total h w hw]
    rw [e]
    refine halves_l0 h _ ?_ ns.length 0 (by omega)
    have e2 : wrap64 ((w : Int) + 1) = ((w + 1 : Nat) : Int) := by rw [w64 (by omega) (by omega)]; omega
    rw [hwe, e2]
    have hz : sumTo (oneN ns ms w) (w + 1) = 0 := sumTo_zero (fun j hj => oneN_low hm ms w j (by omega))
    have h2 : Ev (fun k => sleuthref12_byHalves.l2 k ns ms (w : Int) (dbt ns ms w ns.length) (wtL ns ms w ns.length) (sumTo (oneN ns ms w) ns.length) ((ns.length : Int) - 1))
        (if bestH (szH ns (dbt ns ms w ns.length) ms) (dbt ns ms w ns.length) ms (sumTo (oneN ns ms w) ns.length) ns.length < 0 then bugS ns ms (w : Int) else (0, bestH (szH ns (dbt ns ms w ns.length) ms) (dbt ns ms w ns.length) ms (sumTo (oneN ns ms w) ns.length) ns.length)) := by
      have hs := oneN_sum ns ms w ns.length
      refine halves_l2 h w hw _ _ (fun wt hwl hwt => ?_) ns.length hw (Nat.le_refl _) (List.replicate ns.length 0) (wtL ns ms w ns.length) List.length_replicate (wtL_len ns ms w ns.length) (fun j hj => by rw [rd_rep]; exact Int.le_refl _) ?_ (fun j hj hjN => ?_) (fun j _ _ _ => rd_rep _ _) rfl
      · have h3 := halves_l3 h w hw (szH ns (dbt ns ms w ns.length) ms) wt (sumTo (oneN ns ms w) ns.length) hwl hwt (ns.length - (w + 1)) (w + 1) (by omega) (by omega)
        rw [bestH_low hm ms _ _ w (w + 1) (Nat.le_refl _)] at h3
        exact h3
      · have e3 : sumTo (fun j => rd (List.replicate ns.length 0) (j : Int) + oneN ns ms w j) ns.length = sumTo (oneN ns ms w) ns.length := sumTo_congr (fun j hj => by rw [rd_rep, Int.zero_add])
        rw [e3]; omega
      · rw [wtL_at ns ms w j ns.length (Nat.le_refl _), if_pos hjN, if_pos hjN, rd_rep, Int.zero_add]
    have h1 := halves_l1 h w hw _ h2 (ns.length - (w + 1)) (w + 1) (by omega) (by omega)
    rw [dbt_low ns ms w (w + 1) (Nat.le_refl _), wtL_low hm ms w (w + 1) (Nat.le_refl _), hz] at h1
    exact h1
  · simp only [if_neg c2, rooted_eq h c2, Option.bind_some]
    have e : askH ns ms = askT ns ms := by unfold askH; rw [if_neg c2]
    rw [e]
    exact Ev.now _
end Go.Proofs.YtijamgfpgdiigaaGreatDoor.G
end
section
namespace Go.Proofs.YtijamgfpgdiigaaGreatDoor.G
open Go.RowKit Go.Proofs.YtijamgfpgdiigaaGreatDoorW.PrintWords Go.Proofs.YtijamgfpgdiigaaGreatDoorW.PrintLast Go.Proofs.YtijamgfpgdiigaaGreatDoorW.PrintMore

set_option maxHeartbeats 8000000
set_option maxRecDepth 100000
attribute [local go_sem] max2_int min2_int max_two min_two max_three min_three max_four min_four   -- for this text's walks alone
set_option linter.unusedVariables false
set_option linter.unusedSimpArgs false

def next_Way.f (a0 : Int) : Option (Bool) := if a0 = 0 then (some true) else (some (a0 == 1))
theorem next_Way.calls (a0 : Int) (r : Bool) (w : World) (h : next_Way.f a0 = some r) :
 Calls Tryz.prog 29 #[.int .i64 a0] w fun e w' => e = .returned (.bool r) ∧ Drawn0 w w' := by
 have H := h; unfold next_Way.f at H
 clear h
 by_cases c2 : a0 = 0
 case neg =>
  rw [if_neg c2] at H
  have c2b0 : (a0 == 0) = false := beq_eq_false_iff_ne.mpr c2
  have c2b1 : (a0 != 0) = true := bne_iff_ne.mpr c2
  obtain rfl := Option.some.inj H
  go_enter Tryz.func29, Tryz.ntmps29
  go_wp2
  go_ret
  exact ⟨by first | rfl | (simp; done) | (simp [*]; done), by repeat (first | exact Drawn0.refl _ | apply Drawn0.step)⟩

 rw [if_pos c2] at H
 have c2b0 : (a0 == 0) = true := beq_iff_eq.mpr c2
 have c2b1 : (a0 != 0) = false := bne_eq_false_iff_eq.mpr c2
 clear c2
 obtain rfl := Option.some.inj H
 go_enter Tryz.func29, Tryz.ntmps29
 go_wp2
 go_ret
 exact ⟨by first | rfl | (simp; done) | (simp [*]; done), by repeat (first | exact Drawn0.refl _ | apply Drawn0.step)⟩
set_option maxHeartbeats 8000000
set_option maxRecDepth 100000
attribute [local go_sem] max2_int min2_int max_two min_two max_three min_three max_four min_four   -- for this text's walks alone
set_option linter.unusedVariables false
set_option linter.unusedSimpArgs false

def next_Ask.f (k : Nat) (a0 : Int) (l1 : List (S57)) (l2 : List Int) : Option (Int × Int) := if a0 = 1 then ((half_Ask.f k l1 l2).bind fun bt326 => (some (bt326.1, bt326.2))) else ((top_Ask.f k l1 l2).bind fun bt328 => (some (bt328.1, bt328.2)))
theorem next_Ask.calls (k : Nat) (a0 : Int) (A1 : Option Addr) (c1 : Nat) (l1 : List (S57)) (A2 : Option Addr) (c2 : Nat) (l2 : List Int) (r1 : Int) (r2 : Int) (w : World) (hr1 : Kd.C k57 w A1 l1.length l1) (hc1 : l1.length ≤ c1) (hr2 : Kd.C (Kd.int .i64) w A2 l2.length l2) (hc2 : l2.length ≤ c2) (h : next_Ask.f k a0 l1 l2 = some (r1, r2)) (hG : GOK w) :
 Calls Tryz.prog 21 #[.int .i64 a0, .slice A1 l1.length c1, .slice A2 l2.length c2] w fun e w' => e = .returned (.agg #[.int .i64 r1, .int .i64 r2]) ∧ Below w.heap.size w w' := by
 have hu48 := Tryz.underlying48
 have HR1 := a_ hr1
 have HC1 := a_ hc1
 clear hr1 hc1
 have HR2 := a_ hr2
 have HC2 := a_ hc2
 clear hr2 hc2
 have HB := a_ (Below.refl w.heap.size w)
 have H := h; unfold next_Ask.f at H
 clear h
 by_cases c4 : a0 = 1
 case neg =>
  rw [if_neg c4] at H
  have c4b0 : (a0 == 1) = false := beq_eq_false_iff_ne.mpr c4
  have c4b1 : (a0 != 1) = true := bne_iff_ne.mpr c4
  replace H := Option.bind_eq_some_iff.mp H
  obtain ⟨⟨t0, t1⟩, A90, H⟩ := H
  try dsimp only at H
  have A9 := a_ A90
  clear A90
  simp only [Option.some.injEq, Prod.mk.injEq] at H
  obtain ⟨rfl, rfl⟩ := H
  go_enter Tryz.func21, Tryz.ntmps21
  go_wp2_with (first | ((with_reducible refine gate_dst (N := 6) rfl ?_); refine boxE_ 6 #[.int .i64 0, .int .i64 0] 48 ?_; intro g0 hg w0 hbox hb; have B0 := a_ (hbox); have E0 := a_ ((gE_ hg : w.heap.size ≤ g0)); replace HB := a_ (below_step hB_ hb); clear hb hbox hg) | ((with_reducible refine gate_callee (f := 36) rfl ?_); refine goesL_ (some 14) rfl rfl Tryz.func36 (by kernel_rfl) rfl #[.slice A1 l1.length c1, .slice A2 l2.length c2] rfl hL_ ?_; (with_reducible refine (top_Ask.calls k _ _ l1 _ _ l2 t0 t1 _ ?s1 ?s2 ?s3 ?s4 A9.out).mono ?_); (case s1 => exact cB_ HR1.out); (case s2 => exact HC1.out); (case s3 => exact cB_ HR2.out); (case s4 => exact HC2.out); rintro e w1 ⟨rfl, hb⟩; refine ⟨_, rfl, ?_⟩; replace B0 := a_ (bB_ B0.out hb); replace HB := a_ (below_step hC_ hb); (try clear hb); (try clear hb2); (try clear hk); (try clear hi); obtain ⟨z0, z1, f0, f1⟩ := bx2_ B0.out))
  refine bodyPost_ret (results_cell_row rfl _ _ g0 48 #[.int .i64 t0, .int .i64 t1] (0, 0) _ rfl (bP_ (bP_ (hK_ B0.out))) Tryz.underlying48 rfl (by kernel_rfl)) rfl ?_
  exact ⟨hV_, hC_⟩

 rw [if_pos c4] at H
 have c4b0 : (a0 == 1) = true := beq_iff_eq.mpr c4
 have c4b1 : (a0 != 1) = false := bne_eq_false_iff_eq.mpr c4
 clear c4
 replace H := Option.bind_eq_some_iff.mp H
 obtain ⟨⟨t2, t3⟩, A50, H⟩ := H
 try dsimp only at H
 have A5 := a_ A50
 clear A50
 simp only [Option.some.injEq, Prod.mk.injEq] at H
 obtain ⟨rfl, rfl⟩ := H
 go_enter Tryz.func21, Tryz.ntmps21
 go_wp2_with (first | ((with_reducible refine gate_dst (N := 6) rfl ?_); refine boxE_ 6 #[.int .i64 0, .int .i64 0] 48 ?_; intro g0 hg w6 hbox hb; have B0 := a_ (hbox); have E0 := a_ ((gE_ hg : w.heap.size ≤ g0)); replace HB := a_ (below_step hB_ hb); clear hb hbox hg) | ((with_reducible refine gate_callee (f := 35) rfl ?_); refine goesL_ (some 11) rfl rfl Tryz.func35 (by kernel_rfl) rfl #[.slice A1 l1.length c1, .slice A2 l2.length c2] rfl hL_ ?_; (with_reducible refine (half_Ask.calls k _ _ l1 _ _ l2 t2 t3 _ ?s1 ?s2 ?s3 ?s4 A5.out (by first | exact hG | exact GOK.below hG hC_)).mono ?_); (case s1 => exact cB_ HR1.out); (case s2 => exact HC1.out); (case s3 => exact cB_ HR2.out); (case s4 => exact HC2.out); rintro e w7 ⟨rfl, hb⟩; refine ⟨_, rfl, ?_⟩; replace B0 := a_ (bB_ B0.out hb); replace HB := a_ (below_step hC_ hb); (try clear hb); (try clear hb2); (try clear hk); (try clear hi); obtain ⟨z2, z3, f2, f3⟩ := bx2_ B0.out))
 refine bodyPost_ret (results_cell_row rfl _ _ g0 48 #[.int .i64 t2, .int .i64 t3] (0, 0) _ rfl (bP_ (bP_ (hK_ B0.out))) Tryz.underlying48 rfl (by kernel_rfl)) rfl ?_
 exact ⟨hV_, hC_⟩
def next_Mark.f (a0 : Int) : Option (Bool) := if a0 ≥ 1 then (some (decide (a0 ≤ 3))) else (some false)
theorem next_Mark.calls (a0 : Int) (r : Bool) (w : World) (h : next_Mark.f a0 = some r) :
 Calls Tryz.prog 22 #[.int .i64 a0] w fun e w' => e = .returned (.bool r) ∧ Drawn0 w w' := by
 have H := h; unfold next_Mark.f at H
 clear h
 by_cases c2 : a0 ≥ 1
 case pos =>
  rw [if_pos c2] at H
  have c2b0 : decide (1 ≤ a0) = true := decide_eq_true c2
  clear c2
  obtain rfl := Option.some.inj H
  go_enter Tryz.func22, Tryz.ntmps22
  go_wp2
  go_ret
  exact ⟨by first | rfl | (simp; done) | (simp [*]; done), by repeat (first | exact Drawn0.refl _ | apply Drawn0.step)⟩
 rw [if_neg c2] at H
 have c2b0 : decide (1 ≤ a0) = false := decide_eq_false c2
 clear c2
 obtain rfl := Option.some.inj H
 go_enter Tryz.func22, Tryz.ntmps22
 go_wp2
 go_ret
 exact ⟨by first | rfl | (simp; done) | (simp [*]; done), by repeat (first | exact Drawn0.refl _ | apply Drawn0.step)⟩

set_option maxHeartbeats 8000000
set_option maxRecDepth 100000
attribute [local go_sem] max2_int min2_int max_two min_two max_three min_three max_four min_four   -- for this text's walks alone
set_option linter.unusedVariables false
set_option linter.unusedSimpArgs false

def sleuthref12_asks.f (k : Nat) (l0 : List (S57)) (a1 : Int) (l2 : List Int) : Option (Int × Int) := if a1 = 0 then ((sleuthref12_topDown.f k l0 l2).bind fun bt401 => (some (bt401.1, bt401.2))) else ((sleuthref12_byHalves.f k l0 l2).bind fun bt403 => (some (bt403.1, bt403.2)))
theorem sleuthref12_asks.calls (k : Nat) (A0 : Option Addr) (c0 : Nat) (l0 : List (S57)) (a1 : Int) (A2 : Option Addr) (c2 : Nat) (l2 : List Int) (r1 : Int) (r2 : Int) (w : World) (hr0 : Kd.C k57 w A0 l0.length l0) (hc0 : l0.length ≤ c0) (hr2 : Kd.C (Kd.int .i64) w A2 l2.length l2) (hc2 : l2.length ≤ c2) (h : sleuthref12_asks.f k l0 a1 l2 = some (r1, r2)) :
 Calls Tryz.prog 23 #[.slice A0 l0.length c0, .int .i64 a1, .slice A2 l2.length c2] w fun e w' => e = .returned (.agg #[.int .i64 r1, .int .i64 r2]) ∧ Below w.heap.size w w' := by
 have hu48 := Tryz.underlying48
 have HR0 := a_ hr0
 have HC0 := a_ hc0
 clear hr0 hc0
 have HR2 := a_ hr2
 have HC2 := a_ hc2
 clear hr2 hc2
 have HB := a_ (Below.refl w.heap.size w)
 have H := h; unfold sleuthref12_asks.f at H
 clear h
 by_cases c4 : a1 = 0
 case neg =>
  rw [if_neg c4] at H
  have c4b0 : (a1 == 0) = false := beq_eq_false_iff_ne.mpr c4
  have c4b1 : (a1 != 0) = true := bne_iff_ne.mpr c4
  replace H := Option.bind_eq_some_iff.mp H
  obtain ⟨⟨t0, t1⟩, A90, H⟩ := H
  try dsimp only at H
  have A9 := a_ A90
  clear A90
  simp only [Option.some.injEq, Prod.mk.injEq] at H
  obtain ⟨rfl, rfl⟩ := H
  go_enter Tryz.func23, Tryz.ntmps23
  go_wp2_with (first | ((with_reducible refine gate_dst (N := 6) rfl ?_); refine boxE_ 6 #[.int .i64 0, .int .i64 0] 48 ?_; intro g0 hg w0 hbox hb; have B0 := a_ (hbox); have E0 := a_ ((gE_ hg : w.heap.size ≤ g0)); replace HB := a_ (below_step hB_ hb); clear hb hbox hg) | ((with_reducible refine gate_callee (f := 38) rfl ?_); refine goesL_ (some 14) rfl rfl Tryz.func38 (by kernel_rfl) rfl #[.slice A0 l0.length c0, .slice A2 l2.length c2] rfl hL_ ?_; (with_reducible refine (sleuthref12_byHalves.calls k _ _ l0 _ _ l2 t0 t1 _ ?s1 ?s2 ?s3 ?s4 A9.out).mono ?_); (case s1 => exact cB_ HR0.out); (case s2 => exact HC0.out); (case s3 => exact cB_ HR2.out); (case s4 => exact HC2.out); rintro e w1 ⟨rfl, hb⟩; refine ⟨_, rfl, ?_⟩; replace B0 := a_ (bB_ B0.out hb); replace HB := a_ (below_step hC_ hb); (try clear hb); (try clear hb2); (try clear hk); (try clear hi); obtain ⟨z0, z1, f0, f1⟩ := bx2_ B0.out))
  refine bodyPost_ret (results_cell_row rfl _ _ g0 48 #[.int .i64 t0, .int .i64 t1] (0, 0) _ rfl (bP_ (bP_ (hK_ B0.out))) Tryz.underlying48 rfl (by kernel_rfl)) rfl ?_
  exact ⟨hV_, hC_⟩

 rw [if_pos c4] at H
 have c4b0 : (a1 == 0) = true := beq_iff_eq.mpr c4
 have c4b1 : (a1 != 0) = false := bne_eq_false_iff_eq.mpr c4
 clear c4
 replace H := Option.bind_eq_some_iff.mp H
 obtain ⟨⟨t2, t3⟩, A50, H⟩ := H
 try dsimp only at H
 have A5 := a_ A50
 clear A50
 simp only [Option.some.injEq, Prod.mk.injEq] at H
 obtain ⟨rfl, rfl⟩ := H
 go_enter Tryz.func23, Tryz.ntmps23
 go_wp2_with (first | ((with_reducible refine gate_dst (N := 6) rfl ?_); refine boxE_ 6 #[.int .i64 0, .int .i64 0] 48 ?_; intro g0 hg w6 hbox hb; have B0 := a_ (hbox); have E0 := a_ ((gE_ hg : w.heap.size ≤ g0)); replace HB := a_ (below_step hB_ hb); clear hb hbox hg) | ((with_reducible refine gate_callee (f := 37) rfl ?_); refine goesL_ (some 11) rfl rfl Tryz.func37 (by kernel_rfl) rfl #[.slice A0 l0.length c0, .slice A2 l2.length c2] rfl hL_ ?_; (with_reducible refine (sleuthref12_topDown.calls k _ _ l0 _ _ l2 t2 t3 _ ?s1 ?s2 ?s3 ?s4 A5.out).mono ?_); (case s1 => exact cB_ HR0.out); (case s2 => exact HC0.out); (case s3 => exact cB_ HR2.out); (case s4 => exact HC2.out); rintro e w7 ⟨rfl, hb⟩; refine ⟨_, rfl, ?_⟩; replace B0 := a_ (bB_ B0.out hb); replace HB := a_ (below_step hC_ hb); (try clear hb); (try clear hb2); (try clear hk); (try clear hi); obtain ⟨z2, z3, f2, f3⟩ := bx2_ B0.out))
 refine bodyPost_ret (results_cell_row rfl _ _ g0 48 #[.int .i64 t2, .int .i64 t3] (0, 0) _ rfl (bP_ (bP_ (hK_ B0.out))) Tryz.underlying48 rfl (by kernel_rfl)) rfl ?_
 exact ⟨hV_, hC_⟩
def sleuthref12_markMay.f (a0 : Int) : Option (Bool) := (sleuthref12_upTo.f a0 1 3).bind fun t405 => (some t405)
theorem sleuthref12_markMay.calls (a0 : Int) (r : Bool) (w : World) (h : sleuthref12_markMay.f a0 = some r) :
 Calls Tryz.prog 24 #[.int .i64 a0] w fun e w' => e = .returned (.bool r) ∧ Drawn0 w w' := by
 have H := h; unfold sleuthref12_markMay.f at H
 clear h
 replace H := Option.bind_eq_some_iff.mp H
 obtain ⟨t0, A20, H⟩ := H
 try dsimp only at H
 have A2 := a_ A20
 clear A20
 obtain rfl := Option.some.inj H
 go_enter Tryz.func24, Tryz.ntmps24
 go_wp2_with (first | ((with_reducible refine gate_callee (f := 17) rfl ?_); refine goesL_ _ rfl rfl Tryz.func17 (by kernel_rfl) rfl #[.int .i64 a0, .int .i64 1, .int .i64 3] rfl hL_ ?_; (with_reducible refine (sleuthref12_upTo.calls a0 1 3 t0 _ A2.out).mono ?_); rintro e w' ⟨rfl, ⟨nd, rfl⟩⟩; refine ⟨_, rfl, ?_⟩))
 go_ret
 exact ⟨by first | rfl | (simp; done) | (simp [*]; done), by repeat (first | exact Drawn0.refl _ | apply Drawn0.step)⟩

end Go.Proofs.YtijamgfpgdiigaaGreatDoor.G
end
section
namespace Go.Proofs.YtijamgfpgdiigaaGreatDoor.G
open Go.RowKit Go.Proofs.YtijamgfpgdiigaaGreatDoorW.PrintWords Go.Proofs.YtijamgfpgdiigaaGreatDoorW.PrintLast Go.Proofs.YtijamgfpgdiigaaGreatDoorW.PrintMore
set_option linter.unusedVariables false
set_option linter.unusedSimpArgs false
abbrev An := S46
abbrev ra (zs : List An) (i : Int) : An := rd_T46 zs i
def fineA (l : List An) : Prop := l.length * 16 ≤ 140737488351232 ∧ ∀ x ∈ l, (Lit.int .i64 x.f0).wf = true ∧ (Lit.int .i64 x.f1).wf = true
theorem drop_ra (l : List An) (i : Nat) (h : i < l.length) : l.drop i = ra l (i : Int) :: l.drop (i + 1) := by
  rw [List.drop_eq_getElem_cons h]
  congr 1
  show _ = List.getD _ _ _
  rw [Int.toNat_natCast, List.getD_eq_getElem?_getD, List.getElem?_eq_getElem h]; rfl
def markB (x : Int) : Bool := decide (1 ≤ x) && decide (x ≤ 3)
theorem markB_spec {x : Int} (h : markB x = true) : 1 ≤ x ∧ x ≤ 3 := by
  unfold markB at h
  rw [Bool.and_eq_true, decide_eq_true_iff, decide_eq_true_iff] at h
  exact h
theorem mark_eq (x : Int) : next_Mark.f x = some (markB x) := by
  unfold next_Mark.f markB
  by_cases c : 1 ≤ x
  · rw [if_pos (show x ≥ 1 from c), decide_eq_true c, Bool.true_and]
  · rw [if_neg (show ¬ x ≥ 1 from c), decide_eq_false c, Bool.false_and]
theorem markMay_eq (x : Int) : sleuthref12_markMay.f x = some (markB x) := by
  unfold sleuthref12_markMay.f
  rw [upTo_eq]; rfl
def wayB (x : Int) : Bool := x == 0 || x == 1
theorem way_eq (x : Int) : next_Way.f x = some (wayB x) := by
  unfold next_Way.f wayB
  by_cases c : x = 0
  · rw [if_pos c, beq_iff_eq.2 c]; rfl
  · rw [if_neg c, beq_eq_false_iff_ne.2 c]; rfl
theorem wayR_eq (x : Int) : sleuthref12_upTo.f x 0 1 = some (wayB x) := by
  rw [upTo_eq]
  unfold wayB
  congr 1
  rw [Bool.eq_iff_iff, Bool.and_eq_true, Bool.or_eq_true, decide_eq_true_iff, decide_eq_true_iff, beq_iff_eq, beq_iff_eq]
  omega
theorem wayB_spec {x : Int} (h : wayB x = true) : x = 0 ∨ x = 1 := by
  unfold wayB at h
  rw [Bool.or_eq_true, beq_iff_eq, beq_iff_eq] at h
  exact h
def askW (w : Int) (ns : List Nd) (ms : List Int) : Int × Int := if w = 1 then askH ns ms else askT ns ms
theorem nextAsk_ev {ns : List Nd} {ms : List Int} (h : marksS ns ms = true) (w : Int) : Ev (fun k => next_Ask.f k w ns ms) (askW w ns ms) := by
  unfold next_Ask.f askW
  by_cases c : w = 1
  · simp only [if_pos c]; exact Ev.bind (askH_ev h) (Ev.now _)
  · simp only [if_neg c]; exact Ev.bind (ask_ev h) (Ev.now _)
theorem asksR_ev {ns : List Nd} {ms : List Int} (h : marksS ns ms = true) (w : Int) (hw : wayB w = true) : Ev (fun k => sleuthref12_asks.f k ns w ms) (askW w ns ms) := by
  unfold sleuthref12_asks.f askW
  rcases wayB_spec hw with rfl | rfl
  · rw [if_neg (show ¬ (0 : Int) = 1 by decide)]
    have e : (0 : Int) = 0 := rfl
    simp only [if_pos e]; exact Ev.bind (topDown_ev h) (Ev.now _)
  · rw [if_pos rfl]
    have e : ¬ (1 : Int) = 0 := by decide
    simp only [if_neg e]; exact Ev.bind (byHalves_ev h) (Ev.now _)
theorem askT_facts {ns : List Nd} {ms : List Int} (h : marksS ns ms = true) : 0 ≤ (askT ns ms).2 ∧ (askT ns ms).2 < (ns.length : Int) ∧ ((askT ns ms).1 = 0 → rd ms (askT ns ms).2 = 0) := by
  obtain ⟨hm, hl, hx⟩ := marksS_spec h
  have hlen := mayT_len hm
  unfold askT
  by_cases c0 : rd ms 0 = 0
  · rw [if_pos c0]; exact ⟨Int.le_refl _, by show (0 : Int) < _; omega, fun _ => c0⟩
  · rw [if_neg c0]
    by_cases c1 : rd ms 0 = 1
    · rw [if_pos c1]; exact ⟨Int.le_refl _, by show (0 : Int) < _; omega, fun hh => absurd hh (by decide)⟩
    · rw [if_neg c1]
      by_cases c3 : rd ms 0 = 3
      · rw [if_pos c3]; exact ⟨Int.le_refl _, by show (0 : Int) < _; omega, fun hh => absurd hh (by decide)⟩
      · rw [if_neg c3]
        have h00 := marks_at h 0 (by omega)
        rw [show ((0 : Nat) : Int) = 0 from rfl] at h00
        have hd := downT_spec (ns := ns) (ms := ms) ns.length 0 (by omega) (by omega) (by omega) (by omega)
        generalize downT ns ms ns.length 0 = b at hd
        unfold finT
        cases hf : fstK ns ms b 0 with
        | some k =>
          have hk := fstK_spec hf
          exact ⟨by show 0 ≤ k; omega, hk.2.1, fun _ => hk.2.2.2⟩
        | none =>
          unfold bugS
          simp only []
          split
          · exact ⟨hd.1, hd.2.1, fun hh => absurd hh (show ¬ (1 : Int) = 0 by decide)⟩
          · exact ⟨Int.le_refl _, by show (0 : Int) < _; omega, fun hh => absurd hh (by decide)⟩
theorem askH_facts {ns : List Nd} {ms : List Int} (h : marksS ns ms = true) : 0 ≤ (askH ns ms).2 ∧ (askH ns ms).2 < (ns.length : Int) ∧ ((askH ns ms).1 = 0 → rd ms (askH ns ms).2 = 0) := by
  obtain ⟨hm, hl, hx⟩ := marksS_spec h
  have hlen := mayT_len hm
  unfold askH
  by_cases c2 : rd ms 0 = 2
  · rw [if_pos c2]
    have hr := lastM_range ms ms.length (by omega)
    generalize lastM ms ms.length = w at hr
    have hbr := bestH_range (szH ns (dbt ns ms w.toNat ns.length) ms) (dbt ns ms w.toNat ns.length) ms (rd (szH ns (dbt ns ms w.toNat ns.length) ms) w) ns.length
    have hbs := bestH_spec (szH ns (dbt ns ms w.toNat ns.length) ms) (dbt ns ms w.toNat ns.length) ms (rd (szH ns (dbt ns ms w.toNat ns.length) ms) w) ns.length
    generalize bestH (szH ns (dbt ns ms w.toNat ns.length) ms) (dbt ns ms w.toNat ns.length) ms (rd (szH ns (dbt ns ms w.toNat ns.length) ms) w) ns.length = b at hbr hbs
    by_cases cb : b < 0
    · rw [if_pos cb]
      unfold bugS
      split
      · exact ⟨hr.1, by show w < _; omega, fun hh => absurd hh (show ¬ (1 : Int) = 0 by decide)⟩
      · exact ⟨Int.le_refl _, by show (0 : Int) < _; omega, fun hh => absurd hh (by decide)⟩
    · rw [if_neg cb]
      have h1 := hbs (by omega)
      unfold openB at h1
      rw [Bool.and_eq_true, beq_iff_eq] at h1
      exact ⟨by show 0 ≤ b; omega, hbr.2, fun _ => h1.2⟩
  · rw [if_neg c2]; exact askT_facts h
theorem askW_facts {ns : List Nd} {ms : List Int} (h : marksS ns ms = true) (w : Int) : 0 ≤ (askW w ns ms).2 ∧ (askW w ns ms).2 < (ns.length : Int) ∧ ((askW w ns ms).1 = 0 → rd ms (askW w ns ms).2 = 0) := by
  unfold askW
  split
  · exact askH_facts h
  · exact askT_facts h
theorem sameAnswers_l0 (a : List An) (ha : a.length ≤ 9223372036854775806) : ∀ (n i : Nat), i + n = a.length → Ev (fun k => sleuthlaw0_SameAnswers.l0 k a a (i : Int)) true := by
  intro n
  induction n with
  | zero =>
    intro i hi
    refine Ev.step (f := fun _ => some true) (fun k => ?_) (Ev.now _)
    rw [sleuthlaw0_SameAnswers.l0, if_neg (by omega)]
  | succ n ih =>
    intro i hi
    have hw : wrap64 ((i : Int) + 1) = ((i + 1 : Nat) : Int) := by rw [w64 (by omega) (by omega)]; omega
    refine Ev.step (f := fun k => sleuthlaw0_SameAnswers.l0 k a a ((i + 1 : Nat) : Int)) (fun k => ?_) (ih (i + 1) (by omega))
    rw [sleuthlaw0_SameAnswers.l0, if_pos (by omega), if_pos (by omega), if_pos (by omega), hw]
    simp only [BEq.rfl, Bool.not_true, Bool.or_self, if_neg Bool.false_ne_true]
theorem sameAnswers_ev (a : List An) (ha : a.length ≤ 9223372036854775806) : Ev (fun k => sleuthlaw0_SameAnswers.f k a a) true := by
  unfold sleuthlaw0_SameAnswers.f
  simp only [if_pos]
  exact sameAnswers_l0 a ha a.length 0 (by omega)
theorem sameSession_ev (ns : List Nd) (hok : okN ns) (w : Int) (zs : List An) (hz : zs.length ≤ 9223372036854775806) : Ev (fun k => sleuthlaw0_SameSession.f k ns w zs ns w zs) true := by
  unfold sleuthlaw0_SameSession.f
  refine Ev.bind (sameNodes_ev ns hok) ?_
  simp only [if_pos]
  exact Ev.bind (sameAnswers_ev zs hz) (Ev.now _)
end Go.Proofs.YtijamgfpgdiigaaGreatDoor.G
end
section
namespace Go.Proofs.YtijamgfpgdiigaaGreatDoor.G
open Go.RowKit Go.Proofs.YtijamgfpgdiigaaGreatDoorW.PrintWords Go.Proofs.YtijamgfpgdiigaaGreatDoorW.PrintLast Go.Proofs.YtijamgfpgdiigaaGreatDoorW.PrintMore
set_option maxHeartbeats 8000000
set_option maxRecDepth 100000
attribute [local go_sem] max2_int min2_int max_two min_two max_three min_three max_four min_four   -- for this text's walks alone
set_option linter.unusedVariables false
set_option linter.unusedSimpArgs false

def session_fresh.f (k : Nat) (l0 : List S57) (a1 : Int) : Option Bool := (trail_May.f k l0).bind fun t => if t = true then next_Way.f a1 else some false
theorem session_fresh.true_spec {k : Nat} {l0 : List S57} {a1 : Int} (h : session_fresh.f k l0 a1 = some true) : 0 < l0.length ∧ l0.length ≤ 512 := by
 unfold session_fresh.f at h
 obtain ⟨t, h1, h⟩ := Option.bind_eq_some_iff.mp h
 cases t with
 | false => simp at h
 | true => have := trail_May.true_spec h1; exact ⟨this.1, this.2.1⟩
theorem session_fresh.calls (k : Nat) (ad : Addr) (A0 : Option Addr) (c0 : Nat) (l0 : List S57) (a1 : Int) (r : Bool) (w : World) (h0 : w.cell? ad = some (.slice A0 l0.length c0)) (h1 : w.cell? ⟨ad.block, ad.off + 1, none⟩ = some (.int .i64 a1)) (hr0 : Kd.C k57 w A0 l0.length l0) (hc0 : l0.length ≤ c0) (h : session_fresh.f k l0 a1 = some r) (hG : GOK w) :
 Calls Tryz.prog 14 #[.pointer (some ad)] w fun e w' => e = .returned (.bool r) ∧ Below w.heap.size w w' := by
 have HR0 := a_ hr0
 have HC0 := a_ hc0
 unfold session_fresh.f at h
 obtain ⟨t, A1, h⟩ := Option.bind_eq_some_iff.mp h
 have HA := a_ A1
 have H1 := a_ h1
 clear A1 hr0 hc0 h1
 cases t with
 | false =>
  rw [if_neg Bool.false_ne_true] at h
  obtain rfl := Option.some.inj h
  go_enter Tryz.func14, Tryz.ntmps14
  go_wp2_with (first
   | (go_at_call 28; (with_reducible refine (trail_May.calls k _ _ l0 false _ HR0.out HC0.out HA.out (by first | exact hG)).mono ?_); rintro e w6 ⟨rfl, hb⟩; have HB := a_ hb; clear hb))
  go_ret
  exact ⟨rfl, HB.out⟩
 | true =>
  rw [if_pos rfl] at h
  have HW := a_ h
  clear h
  go_enter Tryz.func14, Tryz.ntmps14
  go_wp2_with (first
   | (go_at_call 28; (with_reducible refine (trail_May.calls k _ _ l0 true _ HR0.out HC0.out HA.out (by first | exact hG)).mono ?_); rintro e w6 ⟨rfl, hb⟩; have HB := a_ hb; have h1 := (hb.cell (World.block_lt_of_cell? w _ H1.out)).trans H1.out; clear hb)
   | (go_at_call 29; (with_reducible refine (next_Way.calls a1 r _ HW.out).mono ?_); rintro e w7 ⟨rfl, ⟨nd, rfl⟩⟩))
  go_ret
  exact ⟨rfl, below_dn HB.out _⟩

set_option maxHeartbeats 8000000
set_option maxRecDepth 100000
attribute [local go_sem] max2_int min2_int max_two min_two max_three min_three max_four min_four   -- for this text's walks alone
set_option linter.unusedVariables false
set_option linter.unusedSimpArgs false

/-- a row whose elements are another row's, as they lay in w0 -/
def borK {α : Type} (w0 : World) (d : Kd α) : Kd α where
 sz := d.sz
 E := d.E
 K := fun _ x cs => d.K w0 x cs
 M := fun _ _ _ x cs => d.K w0 x cs
 K_len := fun h => d.K_len h
 K_one := fun h => d.K_one h
 K_below := fun _ h => h
 K_of_M := fun h => h
 M_mono := fun _ h => h
 M_bound := fun h => h
 M_move := fun _ h => h
 M_lower := fun _ h => h
/-- the same, some of its elements made anew, each apart from the others (f) -/
def mixK {α : Type} (w0 : World) (f : Nat → Nat) (d : Kd α) : Kd (α × Option Nat) where
 sz := d.sz
 E := d.E
 K := fun w x cs => match x.2 with | some _ => d.K w x.1 cs | none => d.K w0 x.1 cs
 M := fun w base ok x cs => match x.2 with | some i => d.M w base (fun k => ok k ∧ f k = i) x.1 cs | none => d.K w0 x.1 cs
 K_len := by rintro w ⟨x, _ | i⟩ cs h <;> exact d.K_len h
 K_one := by rintro w ⟨x, _ | i⟩ cs h <;> exact d.K_one h
 K_below := by
  rintro w w1 ⟨x, _ | i⟩ cs hb h
  · exact h
  · exact d.K_below hb h
 K_of_M := by
  rintro w base ok ⟨x, _ | i⟩ cs h
  · exact h
  · exact d.K_of_M h
 M_mono := by
  rintro w base ok ok' ⟨x, _ | i⟩ cs hok h
  · exact h
  · exact d.M_mono (fun k hk => ⟨hok k hk.1, hk.2⟩) h
 M_bound := by
  rintro w base ok ⟨x, _ | i⟩ cs h
  · exact h
  · exact d.M_mono (fun _ hk => ⟨⟨hk.1.1, hk.2⟩, hk.1.2⟩) (d.M_bound h)
 M_move := by
  rintro w w1 base ok ⟨x, _ | i⟩ cs hm h
  · exact h
  · exact d.M_move (fun k hk => hm k hk.1) h
 M_lower := by
  rintro w base base' ok ⟨x, _ | i⟩ cs hb h
  · exact h
  · exact d.M_lower hb h
theorem mix_tag {α : Type} {w0 : World} {f f' : Nat → Nat} {d : Kd α} {e : Nat} {w : World} {base : Nat} {ok : Nat → Prop} {v : Value} {xs : List (α × Option Nat)} (h : (mixK w0 f d).R e w base ok v xs) (hf : ∀ k, k < w.heap.size → f' k = f k) : (mixK w0 f' d).R e w base ok v xs := by
 obtain ⟨h0, inner, ho, hr⟩ := h
 refine ⟨h0, inner, ho, hr.imp_ ?_⟩
 rintro ⟨x, _ | i⟩ cs h
 · exact h
 · exact d.M_mono (fun k hk => ⟨hk.1.1, (hf k hk.2.2.1).trans hk.1.2⟩) (d.M_bound h)
def mixL {α : Type} (l : List α) (n : Nat) : List (α × Option Nat) := l.zipIdx.map fun p => (p.1, if p.2 < n then some p.2 else none)
theorem mixL_len {α : Type} (l : List α) (n : Nat) : (mixL l n).length = l.length := by simp [mixL]
theorem mixL_at {α : Type} (l : List α) (n j : Nat) : (mixL l n)[j]? = (l[j]?).map fun x => (x, if j < n then some j else none) := by
 unfold mixL
 rw [List.getElem?_map, List.getElem?_zipIdx, Option.map_map, Nat.zero_add]
 rfl
theorem mixL_set {α : Type} (l : List α) (i : Nat) (x : α) (h : l[i]? = some x) : (mixL l i).set i (x, some i) = mixL l (i + 1) := by
 apply List.ext_getElem?
 intro j
 rw [List.getElem?_set, mixL_at, mixL_at, mixL_len]
 by_cases c : i = j
 case neg =>
  rw [if_neg c]
  congr 1
  funext x
  by_cases d : j < i
  case pos =>
   rw [if_pos d, if_pos (by omega)]
  rw [if_neg d, if_neg (by omega)]
 subst c
 have hl : i < l.length := (List.getElem?_eq_some_iff.1 h).1
 rw [if_pos rfl, if_pos hl, h, Option.map_some, if_pos (Nat.lt_succ_self i)]
theorem mix_start {α : Type} {w0 : World} {f : Nat → Nat} {d : Kd α} {e : Nat} {w : World} {base : Nat} {ok : Nat → Prop} {v : Value} {xs : List α} (h : (borK w0 d).R e w base ok v xs) : (mixK w0 f d).R e w base ok v (mixL xs 0) := by
 obtain ⟨h0, inner, ho, hl, hr⟩ := h
 refine ⟨h0, inner, by rw [mixL_len]; exact ho, by rw [mixL_len]; exact hl, fun j p hj => ?_⟩
 rw [mixL_at] at hj
 obtain ⟨x, hx, rfl⟩ := Option.map_eq_some_iff.1 hj
 rw [if_neg (Nat.not_lt_zero j)]
 exact hr j x hx
theorem mix_end {α : Type} {w0 : World} {f : Nat → Nat} {d : Kd α} {e : Nat} {w : World} {base : Nat} {ok : Nat → Prop} {v : Value} {xs : List α} (h : (mixK w0 f d).R e w base ok v (mixL xs xs.length)) : Kd.S d e w base ok v xs := by
 obtain ⟨h0, inner, ho, hl, hr⟩ := h
 rw [mixL_len] at ho hl
 refine ⟨f, h0, inner, by rw [List.length_zipIdx]; exact ho, by rw [List.length_zipIdx]; exact hl, fun j p hj => ?_⟩
 rw [List.getElem?_zipIdx, Nat.zero_add] at hj
 obtain ⟨x, hx, rfl⟩ := Option.map_eq_some_iff.1 hj
 have h2 := hr j (x, some j) (by rw [mixL_at, hx, Option.map_some, if_pos (List.getElem?_eq_some_iff.1 hx).1])
 exact h2
theorem clN.calls (A : Option Addr) (c : Nat) (xs : List S57) (w0 w : World) (hB0 : Below w0.heap.size w0 w) (hC : Kd.C k57 w0 A xs.length xs) (hl : xs.length * 56 ≤ 140737488355328) :
 Calls Tryz.prog 30 #[.slice A xs.length c] w fun e w' => ∃ v, e = .returned v ∧ (borK w0 k57).R 57 w' w.heap.size (fun _ => True) v xs ∧ Below w.heap.size w w' := by
 have q_ : ∀ (w : World) (a : Option Addr) (n c n' c' : Nat), (binOp .eql 22 (.slice a n c) (.slice none n' c')).run Tryz.prog w = .ok (.bool a.isNone) w := fun w a n c n' c' => Lib.run_eql_slice_nil w _ _ a n c n' c' Tryz.underlying22
 cases A with
 | none =>
  have h0 : xs.length = 0 := by
   rcases Nat.eq_zero_or_pos xs.length with h0 | h0
   · exact h0
   · obtain ⟨ad, h, _⟩ := hC.2.2 h0
     cases h
  obtain rfl : xs = [] := List.eq_nil_of_length_eq_zero h0
  clear hC hl h0 hB0
  go_enter Tryz.func30, Tryz.ntmps30
  go_wp2
  go_ret
  exact ⟨_, rfl, Kd.R_nil _ _ _ _ _, Below.refl _ _⟩
 | some ad =>
  have HC := a_ hC
  have HB0 := a_ hB0
  have HL := a_ hl
  clear hC hl hB0
  go_enter Tryz.func30, Tryz.ntmps30
  go_wp2_with (first
   | ((with_reducible refine gate_dst (N := 5) rfl ?_); refine Kd.R_lit (borK w0 k57) _ 57 ?hg (N := 5) ?hd (xs := ([] : List S57)) (inner := []) (ok := fun _ => True) (okp := fun _ => True) ?hr ?hp (fun _ hk => hk) trivial (Below.refl _ _) (Nat.le_refl _) (by simp) ?_; (case hd => rfl); (case hg => rfl); (case hr => first | (go_simp; done) | (go_simp; rfl)); (case hp => exact (Reps.none _ _)); intro v5 w5 ho hb hg_ hnew_; have HO := a_ ho; have HB := a_ hb; clear ho hb hg_ hnew_)
   | ((with_reducible refine gate_builtin (b := .append) (xs := #[.tmp 5, .tmp 6]) rfl ?_); at_builtin; refine Kd.R_append_rows (borK w0 k57) (Rr := Kd.K k57 w0) (w0 := w) w.heap.size rfl (.tmp 5) (.tmp 6) 22 57 (.agg #[(.int .i64 0), (.int .i64 0), (.slice none 0 0), (.string ⟨#[]⟩)]) 56 rfl Tryz.underlying22 info57 rfl (show 0 < 4 by decide) (by omega) v5 [] xs _ _ _ (fun _ => True) (fun _ => False) rfl rfl HO.out (HC.out.imp_ (below_step HB0.out HB.out) (fun _ _ h => h)) (fun _ _ h => h) (fun _ h => h.elim) (fun _ _ => trivial) HB.out HB.out.size (by have := HL.out; simp only [List.length_nil, Nat.zero_add]; exact this) ?_; intro v7 w7 ho hb hg hat; rw [List.nil_append] at ho; have P0 := a_ ho; have HB2 := a_ hb; clear ho hb hg hat HO HB))
  go_ret
  exact ⟨_, rfl, P0.out, HB2.out⟩
theorem clA.calls (A : Option Addr) (c : Nat) (xs : List S46) (w0 w : World) (hB0 : Below w0.heap.size w0 w) (hC : Kd.C k46 w0 A xs.length xs) (hl : xs.length * 16 ≤ 140737488355328) :
 Calls Tryz.prog 31 #[.slice A xs.length c] w fun e w' => ∃ v, e = .returned v ∧ (borK w0 k46).R 46 w' w.heap.size (fun _ => True) v xs ∧ Below w.heap.size w w' := by
 have q_ : ∀ (w : World) (a : Option Addr) (n c n' c' : Nat), (binOp .eql 23 (.slice a n c) (.slice none n' c')).run Tryz.prog w = .ok (.bool a.isNone) w := fun w a n c n' c' => Lib.run_eql_slice_nil w _ _ a n c n' c' Tryz.underlying23
 cases A with
 | none =>
  have h0 : xs.length = 0 := by
   rcases Nat.eq_zero_or_pos xs.length with h0 | h0
   · exact h0
   · obtain ⟨ad, h, _⟩ := hC.2.2 h0
     cases h
  obtain rfl : xs = [] := List.eq_nil_of_length_eq_zero h0
  clear hC hl h0 hB0
  go_enter Tryz.func31, Tryz.ntmps31
  go_wp2
  go_ret
  exact ⟨_, rfl, Kd.R_nil _ _ _ _ _, Below.refl _ _⟩
 | some ad =>
  have HC := a_ hC
  have HB0 := a_ hB0
  have HL := a_ hl
  clear hC hl hB0
  go_enter Tryz.func31, Tryz.ntmps31
  go_wp2_with (first
   | ((with_reducible refine gate_dst (N := 5) rfl ?_); refine Kd.R_lit (borK w0 k46) _ 46 ?hg (N := 5) ?hd (xs := ([] : List S46)) (inner := []) (ok := fun _ => True) (okp := fun _ => True) ?hr ?hp (fun _ hk => hk) trivial (Below.refl _ _) (Nat.le_refl _) (by simp) ?_; (case hd => rfl); (case hg => rfl); (case hr => first | (go_simp; done) | (go_simp; rfl)); (case hp => exact (Reps.none _ _)); intro v5 w5 ho hb hg_ hnew_; have HO := a_ ho; have HB := a_ hb; clear ho hb hg_ hnew_)
   | ((with_reducible refine gate_builtin (b := .append) (xs := #[.tmp 5, .tmp 6]) rfl ?_); at_builtin; refine Kd.R_append_rows (borK w0 k46) (Rr := Kd.K k46 w0) (w0 := w) w.heap.size rfl (.tmp 5) (.tmp 6) 23 46 (.agg #[(.int .i64 0), (.int .i64 0)]) 16 rfl Tryz.underlying23 info46 rfl (show 0 < 2 by decide) (by omega) v5 [] xs _ _ _ (fun _ => True) (fun _ => False) rfl rfl HO.out (HC.out.imp_ (below_step HB0.out HB.out) (fun _ _ h => h)) (fun _ _ h => h) (fun _ h => h.elim) (fun _ _ => trivial) HB.out HB.out.size (by have := HL.out; simp only [List.length_nil, Nat.zero_add]; exact this) ?_; intro v7 w7 ho hb hg hat; rw [List.nil_append] at ho; have P0 := a_ ho; have HB2 := a_ hb; clear ho hb hg hat HO HB))
  go_ret
  exact ⟨_, rfl, P0.out, HB2.out⟩
theorem clS.calls (A : Option Addr) (c : Nat) (xs : List ByteArray) (w0 w : World) (hB0 : Below w0.heap.size w0 w) (hC : Kd.C Kd.string w0 A xs.length xs) (hl : xs.length * 16 ≤ 140737488355328) :
 Calls Tryz.prog 32 #[.slice A xs.length c] w fun e w' => ∃ v, e = .returned v ∧ (borK w0 Kd.string).R 9 w' w.heap.size (fun _ => True) v xs ∧ Below w.heap.size w w' := by
 have q_ : ∀ (w : World) (a : Option Addr) (n c n' c' : Nat), (binOp .eql 55 (.slice a n c) (.slice none n' c')).run Tryz.prog w = .ok (.bool a.isNone) w := fun w a n c n' c' => Lib.run_eql_slice_nil w _ _ a n c n' c' Tryz.underlying55
 cases A with
 | none =>
  have h0 : xs.length = 0 := by
   rcases Nat.eq_zero_or_pos xs.length with h0 | h0
   · exact h0
   · obtain ⟨ad, h, _⟩ := hC.2.2 h0
     cases h
  obtain rfl : xs = [] := List.eq_nil_of_length_eq_zero h0
  clear hC hl h0 hB0
  go_enter Tryz.func32, Tryz.ntmps32
  go_wp2
  go_ret
  exact ⟨_, rfl, Kd.R_nil _ _ _ _ _, Below.refl _ _⟩
 | some ad =>
  have HC := a_ hC
  have HB0 := a_ hB0
  have HL := a_ hl
  clear hC hl hB0
  go_enter Tryz.func32, Tryz.ntmps32
  go_wp2_with (first
   | ((with_reducible refine gate_dst (N := 5) rfl ?_); refine Kd.R_lit (borK w0 Kd.string) _ 9 ?hg (N := 5) ?hd (xs := ([] : List ByteArray)) (inner := []) (ok := fun _ => True) (okp := fun _ => True) ?hr ?hp (fun _ hk => hk) trivial (Below.refl _ _) (Nat.le_refl _) (by simp) ?_; (case hd => rfl); (case hg => rfl); (case hr => first | (go_simp; done) | (go_simp; rfl)); (case hp => exact (Reps.none _ _)); intro v5 w5 ho hb hg_ hnew_; have HO := a_ ho; have HB := a_ hb; clear ho hb hg_ hnew_)
   | ((with_reducible refine gate_builtin (b := .append) (xs := #[.tmp 5, .tmp 6]) rfl ?_); at_builtin; refine Kd.R_append_rows (borK w0 Kd.string) (Rr := Kd.K Kd.string w0) (w0 := w) w.heap.size rfl (.tmp 5) (.tmp 6) 55 9 (.string ⟨#[]⟩) 16 rfl Tryz.underlying55 info9 rfl (show 0 < 1 by decide) (by omega) v5 [] xs _ _ _ (fun _ => True) (fun _ => False) rfl rfl HO.out (HC.out.imp_ (below_step HB0.out HB.out) (fun _ _ h => h)) (fun _ _ h => h) (fun _ h => h.elim) (fun _ _ => trivial) HB.out HB.out.size (by have := HL.out; simp only [List.length_nil, Nat.zero_add]; exact this) ?_; intro v7 w7 ho hb hg hat; rw [List.nil_append] at ho; have P0 := a_ ho; have HB2 := a_ hb; clear ho hb hg hat HO HB))
  go_ret
  exact ⟨_, rfl, P0.out, HB2.out⟩
def sc_fit (l0 : List S57) (l2 : List S46) : Bool := decide (l0.length ≤ 2513169434916) && (decide (l2.length ≤ 8796093022208) && l0.all fun x => decide (x.f2.length ≤ 8796093022208))
def session_Copy.f (l0_0 : List S57) (a0_1 : Int) (l0_2 : List S46) : Option (List S57 × Int × List S46) := if sc_fit l0_0 l0_2 = true then some (l0_0, a0_1, l0_2) else none
def session_Copy.T1 : Bool × List (List Nat × List Nat) := (true, [([], []), ([0], [0]), ([1], [1]), ([], []), ([3], [3]), ([4, 2], [4]), ([0, 1, 2, 3, 4], []), ([6, 2, 5, 0, 1, 2, 3, 4], [2, 6]), ([0, 1, 2, 3, 4, 5, 6, 7], []), ([8, 5, 7, 0, 1, 2, 3, 4, 5, 6, 7], [5, 8])])
def session_Copy.B1 : List Nat := [0, 1, 3, 0, 8, 31, 31, 127, 255, 511]
theorem session_Copy.tab1 : rtab .any (opsOf Tryz.f15 1) = session_Copy.T1 := by kernel_rfl
theorem session_Copy.bits1 : waitsOk session_Copy.T1.2 session_Copy.B1 = true := by kernel_rfl
def session_Copy.T5 : Bool × List (List Nat × List Nat) := (true, [([], []), ([0], [0]), ([], []), ([], []), ([3], [3]), ([], []), ([4, 5], [4, 5]), ([6], [6]), ([7], [7]), ([8], [8]), ([1, 2, 0, 1, 2, 3, 4, 5, 6, 7, 8, 9], [1, 2]), ([10, 0, 1, 2, 3, 4, 5, 6, 7, 8, 9], [10]), ([11, 9, 9, 0, 1, 2, 3, 4, 5, 6, 7, 8, 9], [9, 11])])
def session_Copy.B5 : List Nat := [0, 1, 0, 0, 8, 0, 56, 120, 248, 504, 1023, 2047, 4095]
theorem session_Copy.tab5 : rtab .any (opsOf Tryz.f15 5) = session_Copy.T5 := by kernel_rfl
theorem session_Copy.bits5 : waitsOk session_Copy.T5.2 session_Copy.B5 = true := by kernel_rfl
theorem mixL_rd (l : List S57) (x : Int) (h0 : 0 ≤ x) (h1 : x < (l.length : Int)) : (mixL l x.toNat).getD x.toNat (z57, none) = (rd_T57 l x, none) := by
 have hl : x.toNat < l.length := by omega
 rw [List.getD_eq_getElem?_getD, mixL_at, List.getElem?_eq_getElem hl, Option.map_some, if_neg (Nat.lt_irrefl _)]
 show (_, _) = (List.getD _ _ _, _)
 rw [List.getD_eq_getElem?_getD, List.getElem?_eq_getElem hl]; rfl
theorem rd_mem_N (l : List S57) (x : Int) (h0 : 0 ≤ x) (h1 : x < (l.length : Int)) : rd_T57 l x ∈ l := by
 show List.getD _ _ _ ∈ _
 rw [List.getD_eq_getElem?_getD, List.getElem?_eq_getElem (show x.toNat < l.length by omega)]
 exact List.getElem_mem _
theorem rd_some_N (l : List S57) (x : Int) (h0 : 0 ≤ x) (h1 : x < (l.length : Int)) : l[x.toNat]? = some (rd_T57 l x) := by
 have hl : x.toNat < l.length := by omega
 rw [List.getElem?_eq_getElem hl]
 show some _ = some (List.getD _ _ _)
 rw [List.getD_eq_getElem?_getD, List.getElem?_eq_getElem hl]; rfl
theorem wsuccN (x : Int) (h0 : 0 ≤ x) (h1 : x ≤ 9223372036854775806) : wrap64 (x + 1) = x + 1 := by unfold wrap64; omega
theorem sc_spec {l0 : List S57} {l2 : List S46} (h : sc_fit l0 l2 = true) : l0.length ≤ 2513169434916 ∧ l2.length ≤ 8796093022208 ∧ ∀ x ∈ l0, x.f2.length ≤ 8796093022208 := by
 unfold sc_fit at h
 rw [Bool.and_eq_true, Bool.and_eq_true, decide_eq_true_iff, decide_eq_true_iff] at h
 exact ⟨h.1, h.2.1, fun x hx => of_decide_eq_true (List.all_eq_true.1 h.2.2 x hx)⟩
theorem borA {w0 w : World} {e base : Nat} {ok : Nat → Prop} {v : Value} {xs : List S46} (h : (borK w0 k46).R e w base ok v xs) : k46.R e w base ok v xs := Kd.R_imp rfl (fun _ _ _ _ _ h => h) h
theorem borS {w0 w : World} {e base : Nat} {ok : Nat → Prop} {v : Value} {xs : List ByteArray} (h : (borK w0 Kd.string).R e w base ok v xs) : Kd.string.R e w base ok v xs := Kd.R_imp rfl (fun _ _ _ _ _ h => h) h
theorem session_Copy.callsS (A0_0 : Option Addr) (c0_0 : Nat) (l0_0 : List S57) (a0_1 : Int) (A0_2 : Option Addr) (c0_2 : Nat) (l0_2 : List S46) (w : World) (hr0_0 : Kd.C k57 w A0_0 l0_0.length l0_0) (hc0_0 : l0_0.length ≤ c0_0) (hr0_2 : Kd.C k46 w A0_2 l0_2.length l0_2) (hc0_2 : l0_2.length ≤ c0_2) (hfit : sc_fit l0_0 l0_2 = true) :
 Calls Tryz.prog 15 #[.agg #[.slice A0_0 l0_0.length c0_0, .int .i64 a0_1, .slice A0_2 l0_2.length c0_2]] w fun e w' => ∃ v0_ v2_ : Value, e = .returned (.agg #[v0_, .int .i64 a0_1, v2_]) ∧ Kd.S k57 57 w' w.heap.size (fun _ => True) v0_ l0_0 ∧ Kd.R k46 46 w' w.heap.size (fun _ => True) v2_ l0_2 ∧ Below w.heap.size w w' := by
 obtain ⟨h0, h1, hxa⟩ := sc_spec hfit
 have HR0 := a_ hr0_0
 have HC0 := a_ hc0_0
 have HR2 := a_ hr0_2
 have HC2 := a_ hc0_2
 have L0 := a_ (show l0_0.length * 56 ≤ 140737488355328 by omega)
 have L1 := a_ (show l0_2.length * 16 ≤ 140737488355328 by omega)
 have HLa := a_ hxa
 have hmx := a_ h0
 clear hr0_0 hc0_0 hr0_2 hc0_2 h0 h1 hxa hfit
 have HB := a_ (Below.refl w.heap.size w)
 have hu := Tryz.underlying25
 go_enter Tryz.func15, Tryz.ntmps15
 go_wp2_with (first
  | ((with_reducible refine gate_dst (N := 1) rfl ?_); refine boxE_ 1 #[.slice A0_0 l0_0.length c0_0, .int .i64 a0_1, .slice A0_2 l0_2.length c0_2] 25 ?_; intro g0 hg w1 hbox hb; have E1 := a_ (gE_ hg : w.heap.size ≤ g0); have n0_ := a_ (below_step hB_ hb); clear HB; have HB := n0_; have B0 := a_ hbox; clear n0_ hg hbox hb)
  | ((with_reducible refine gate_dst (N := 2) rfl ?_); refine boxE_ 2 #[.slice none 0 0, .int .i64 0, .slice none 0 0] 25 ?_; intro g1 hg w2 hbox hb; have E0 := a_ (gE_ hg : w.heap.size ≤ g1); have NB := a_ (bL_ B0.out hg : g0 ≠ g1); have n0_ := a_ (below_step hC_ hb); have n1_ := a_ (bB_ B0.out hb); clear HB B0; have HB := n0_; have B0 := n1_; have B1 := a_ hbox; clear n0_ n1_ hg hbox hb))
 replace B0 := a_ (blk_drew B0.out)
 replace B1 := a_ (blk_drew B1.out)
 replace HB := a_ (below_drew1 HB.out)
 refine start_ (n := 10) (S := fun w' => w'.cell? ⟨g0, 0, none⟩ = some (.slice A0_0 l0_0.length c0_0) ∧ w'.cell? ⟨g0, 2, none⟩ = some (.slice A0_2 l0_2.length c0_2)) (ds := [7, 9]) #[false, false, false, false, false, false, false, false, false, false] (by kernel_rfl) rfl rfl ⟨bc0_ B0.out, bc2_ B0.out⟩ (fun hHeld => ?_)
 refine with_tabW session_Copy.tab1 session_Copy.bits1 (fun HT_ HW_ => ?_)
 generalize w2.drew = w3 at B0 B1 HB hHeld ⊢
 refine pB_ 0 4 HT_.out ?_
 refine pB_ 3 7 HT_.out ?_
 refine tB_ 1 5 HT_.out HW_.out hHeld ?_
 refine tB_ 4 8 HT_.out HW_.out hHeld ?_
 refine one_ (i := 2) (N := some 6) #[true, true, true, true, true, false, false, false, false, false] rfl rfl (one_of HT_.out (by kernel_rfl)) (by decide) (fun K hK => ?_)
 refine goes_ Tryz.func30 (by kernel_rfl) rfl #[.slice A0_0 l0_0.length c0_0] (by rfl) rfl rfl hL_ ?_
 refine (clN.calls A0_0 c0_0 l0_0 w _ HB.out HR0.out L0.out).mono ?_
 rintro e w4 ⟨v0, rfl, ho0, hb⟩
 refine ⟨_, rfl, ?_⟩
 have P1 := a_ (Kd.R_lower ho0 HB.out.size)
 have BK1' := a_ (blk_below B0.out hb)
 have BK2' := a_ (blk_below B1.out hb)
 have HB' := a_ (below_step HB.out hb)
 clear B0 B1 ho0 hb
 obtain ⟨Ao, co, e0⟩ := Kd.R_slice P1.out
 subst e0
 refine hK.out _ _ ⟨bc0_ BK1'.out, bc2_ BK1'.out⟩ (fun hHeld => ?_)
 clear hK K
 refine norm_ (a' := ?_) ?_ ?_
 rotate_left
 · show Act.put _ (some 6) _ = _
   simp only [Act.put, List.setIfInBounds_toArray, List.set_cons_zero, List.set_cons_succ, i64_w, i32_w]
   rfl
 refine pB_ 6 10 HT_.out ?_
 refine one_ (i := 5) (N := some 9) #[true, true, true, true, true, true, true, false, false, false] rfl rfl (one_of HT_.out (by kernel_rfl)) (by decide) (fun K hK => ?_)
 refine goes_ Tryz.func31 (by kernel_rfl) rfl #[.slice A0_2 l0_2.length c0_2] (by rfl) rfl rfl hL_ ?_
 refine (clA.calls A0_2 c0_2 l0_2 w _ HB'.out HR2.out L1.out).mono ?_
 rintro e w5 ⟨v2, rfl, ho2, hb⟩
 refine ⟨_, rfl, ?_⟩
 have P0 := a_ (borA (Kd.R_lower ho2 HB'.out.size))
 have HO0' := a_ (Kd.R_below P1.out hb)
 have B0 := a_ (blk_below BK1'.out hb)
 have B1 := a_ (blk_below BK2'.out hb)
 have HB5 := a_ (below_step HB'.out hb)
 clear BK1' BK2' ho2 hb P1 HB'
 obtain ⟨a0, o0, e2⟩ := Kd.R_slice P0.out
 subst e2
 refine hK.out _ _ ⟨bc0_ B0.out, bc2_ B0.out⟩ (fun hHeld => ?_)
 clear hK K
 refine norm_ (a' := ?_) ?_ ?_
 rotate_left
 · show Act.put _ (some 9) _ = _
   simp only [Act.put, List.setIfInBounds_toArray, List.set_cons_zero, List.set_cons_succ, i64_w, i32_w]
   rfl
 refine last_ (i := 7) (N := none) #[true, true, true, true, true, true, true, true, false, false] rfl rfl (one_of HT_.out (by kernel_rfl)) (by decide) (fun K hK => ?_)
 obtain ⟨hc0, hc1, hc2, hf0, hf1, hf2⟩ := bx3_ B0.out
 refine skip_ (w1 := ?_) (by rfl) rfl ?_ ?_
 rotate_left
 · go_simp
   rfl
 refine hK.out _ _ ?_
 clear hK K hc0 hc1 hc2 hf0 hf1 hf2 hHeld
 have n0_ : Aside0 _ := a_ (bP_ (u := .slice Ao l0_0.length co) (i := 0) (cs' := #[.slice Ao l0_0.length co, .int .i64 a0_1, .slice A0_2 l0_2.length c0_2]) B0.out)
 have n1_ := a_ (bF_ (p := ⟨g0, 0, none⟩) (u := .slice Ao l0_0.length co) B1.out (Ne.symm NB.out))
 have n2_ := a_ (Kd.R_drop (rF_ (j := 0) (u := .slice Ao l0_0.length co) (Kd.R_types HO0'.out B0.out (show ∀ q, q ∈ ([57, 9] : List Nat) → q ≠ 25 by decide))))
 have n3_ := a_ (Kd.R_drop (rF_ (j := 0) (u := .slice Ao l0_0.length co) (Kd.R_types P0.out B0.out (by decide))))
 have n4_ := a_ (below_set (j := 0) (v := .slice Ao l0_0.length co) HB5.out E1.out)
 clear B0 B1 HO0' P0 HB5
 have B0 := n0_
 have B1 := n1_
 have HO0' := n2_
 have P0 := n3_
 have HB5 := n4_
 clear n0_ n1_ n2_ n3_ n4_
 generalize w5.setCell ⟨g0, 0, none⟩ (.slice Ao l0_0.length co) = w6 at B0 B1 HO0' P0 HB5 ⊢
 refine pB_ 8 11 HT_.out ?_
 refine last_ (i := 9) (N := none) #[true, true, true, true, true, true, true, true, true, true] rfl rfl (one_of HT_.out (by kernel_rfl)) (by decide) (fun K hK => ?_)
 obtain ⟨hc0, hc1, hc2, hf0, hf1, hf2⟩ := bx3_ B0.out
 refine skip_ (w1 := ?_) (by rfl) rfl ?_ ?_
 rotate_left
 · go_simp
   rfl
 refine hK.out _ _ ?_
 clear hK K hc0 hc1 hc2 hf0 hf1 hf2
 have n0_ := a_ (bP_ (u := .slice a0 l0_2.length o0) (i := 2) (cs' := #[.slice Ao l0_0.length co, .int .i64 a0_1, .slice a0 l0_2.length o0]) B0.out)
 have n1_ := a_ (bF_ (p := ⟨g0, 2, none⟩) (u := .slice a0 l0_2.length o0) B1.out (Ne.symm NB.out))
 have n2_ := a_ (Kd.R_drop (rF_ (j := 2) (u := .slice a0 l0_2.length o0) (Kd.R_types HO0'.out B0.out (show ∀ q, q ∈ ([57, 9] : List Nat) → q ≠ 25 by decide))))
 have n3_ := a_ (Kd.R_drop (rF_ (j := 2) (u := .slice a0 l0_2.length o0) (Kd.R_types P0.out B0.out (by decide))))
 have n4_ := a_ (below_set (j := 2) (v := .slice a0 l0_2.length o0) HB5.out E1.out)
 clear B0 B1 HO0' P0 HB5
 have B0 := n0_
 have B1 := n1_
 have HO0' := n2_
 have P0 := n3_
 have HB5 := n4_
 clear n0_ n1_ n2_ n3_ n4_
 generalize w6.setCell ⟨g0, 2, none⟩ (.slice a0 l0_2.length o0) = w7 at B0 B1 HO0' P0 HB5 ⊢
 refine done_ (done_of HT_.out (by kernel_rfl)) ?_
 clear HT_ HW_
 have HM := a_ (mix_start (f := fun _ => 0) HO0'.out)
 clear HO0'
 obtain ⟨hc0, hc1, hc2, hf0, hf1, hf2⟩ := bx3_ B0.out
 go_wp2
 clear hc0 hc1 hc2 hf0 hf1 hf2
 go_loopw [15] (fun v wr => ∃ x : Int, v = .int .i64 x ∧ Aside0 (0 ≤ x ∧ x ≤ (l0_0.length : Int)) ∧ Aside0 (wr.heap[g0]? = some (.cells #[.slice Ao l0_0.length co, .int .i64 a0_1, .slice a0 l0_2.length o0] 25 (0, 0))) ∧ Aside0 (wr.heap[g1]? = some (.cells #[.slice none 0 0, .int .i64 0, .slice none 0 0] 25 (0, 0))) ∧ Aside0 (k46.R 46 wr w.heap.size (fun _ => True) (.slice a0 l0_2.length o0) l0_2) ∧ Aside0 (Below w.heap.size w wr) ∧ Aside0 (∃ f, (mixK w f k57).R 57 wr w.heap.size (fun _ => True) (.slice Ao l0_0.length co) (mixL l0_0 x.toNat))) (fun v _ => l0_0.length - (intOf v).toNat)
 case atStart => exact ⟨0, rfl, ⟨by omega, by omega⟩, B0, B1, P0, HB5, ⟨⟨_, HM.out⟩⟩⟩
 case round =>
  clear B0 B1 P0 HB5 HM
  obtain ⟨x, rfl, HX, B0, B1, P0, HB, HM⟩ := hrel
  by_cases hlt : x < (l0_0.length : Int)
  case neg =>
   have hltb := decide_eq_false hlt
   obtain ⟨f, hM⟩ := HM.out
   have hxl : x.toNat = l0_0.length := by have := HX.out; omega
   rw [hxl] at hM
   have hS := a_ (mix_end hM)
   obtain ⟨hc0, hc1, hc2, hf0, hf1, hf2⟩ := bx3_ B0.out
   obtain ⟨kc0, kc1, kc2, kf0, kf1, kf2⟩ := bx3_ B1.out
   have hn1 := NB.out
   have hn2 := Ne.symm NB.out
   clear hM HM hlt hxl
   go_wp2
   refine bodyPost_ret (results_cell_row rfl _ _ g1 25 #[.slice Ao l0_0.length co, .int .i64 a0_1, .slice a0 l0_2.length o0] (0, 0) _ rfl (bP_ (i := 2) (cs' := #[.slice Ao l0_0.length co, .int .i64 a0_1, .slice a0 l0_2.length o0]) (bP_ (i := 1) (cs' := #[.slice Ao l0_0.length co, .int .i64 a0_1, .slice none 0 0]) (bP_ (i := 0) (cs' := #[.slice Ao l0_0.length co, .int .i64 0, .slice none 0 0]) B1.out))) hu rfl (by kernel_rfl)) rfl ?_
   refine ⟨_, _, rfl, ?_, ?_, ?_⟩
   · exact Kd.S_mono (sF_ (sF_ (sF_ (Kd.S_types hS.out B1.out (show ∀ q, q ∈ ([57, 9] : List Nat) → q ≠ 25 by decide))))) (fun _ _ => trivial)
   · exact Kd.R_mono (rF_ (rF_ (rF_ (Kd.R_types P0.out B1.out (by decide))))) (fun _ _ => trivial)
   · exact below_set (below_set (below_set HB.out E0.out) E0.out) E0.out
  have hltb := decide_eq_true hlt
  obtain ⟨f, hM⟩ := HM.out
  have h0 := HX.out.1
  obtain ⟨g, cap, e, hbg, hgl, cells, hgc⟩ := Kd.R_form hM (by rw [mixL_len]; omega)
  rw [mixL_len] at e
  injection e with e1 e2_ e3
  subst e1 e3
  obtain ⟨c, hcl, hcM, hcc, hfz⟩ := Kd.R_elem hM (z57, none) x h0 (by omega)
  rw [mixL_rd l0_0 x h0 hlt] at hcM
  obtain ⟨A2e, c2e, rfl, hl2e, hC2e⟩ := k57_open (show k57.K w (rd_T57 l0_0 x) c from hcM)
  have hcell : wr.drew.cell? ⟨g, x.toNat * 4 + 2, none⟩ = some (.slice A2e (rd_T57 l0_0 x).f2.length c2e) := hcc 2 _ rfl
  have HF := a_ (show (rd_T57 l0_0 x).f2.length * 16 ≤ 140737488355328 by have := HLa.out _ (rd_mem_N l0_0 x h0 hlt); omega)
  have HE := a_ (And.intro h0 (And.intro hlt (And.intro hbg (And.intro hl2e hC2e))))
  have HM' := a_ (Kd.R_drew hM)
  have HCC := a_ (show ∀ j u, [Value.int .i64 (rd_T57 l0_0 x).f0, .int .i64 (rd_T57 l0_0 x).f1, .slice A2e (rd_T57 l0_0 x).f2.length c2e, .string (rd_T57 l0_0 x).f3][j]? = some u → wr.drew.cell? ⟨g, x.toNat * 4 + j, none⟩ = some u from hcc)
  have HGC := a_ (show wr.drew.heap[g]? = some (.cells cells 57 (0, 0)) from hgc)
  replace B0 := a_ (blk_drew B0.out)
  replace B1 := a_ (blk_drew B1.out)
  replace HB := a_ (below_drew1 HB.out)
  replace P0 := a_ (Kd.R_drew P0.out)
  clear HM hM hbg hgl hgc hcl hcM hcc hfz hl2e hC2e
  have hlt_ := eq_true hlt
  have hx0_ := eq_true h0
  have hu1 := Tryz.underlying57
  have hu2 := Tryz.underlying22
  clear hlt h0
  have X0 := a_ hcell
  clear hcell
  go_wp2
  have hcell := X0.out
  refine start_ (n := 13) (S := fun w' => w'.cell? ⟨g0, 0, none⟩ = some (.slice (some ⟨g, 0, none⟩) l0_0.length co) ∧ w'.cell? ⟨g, x.toNat * 4 + 2, none⟩ = some (.slice A2e (rd_T57 l0_0 x).f2.length c2e)) (ds := [12]) #[false, false, false, false, false, false, false, false, false, false, false, false, false] (by kernel_rfl) rfl rfl ⟨bc0_ B0.out, hcell⟩ (fun hHeld => ?_)
  refine with_tabW session_Copy.tab5 session_Copy.bits5 (fun HT_ HW_ => ?_)
  clear hcell X0
  generalize wr.drew = w3 at B0 B1 HB P0 HM' HCC HGC hHeld ⊢
  refine pB_ 0 18 HT_.out ?_
  refine pB_ 2 20 HT_.out ?_
  refine pB_ 3 21 HT_.out ?_
  refine pB_ 5 23 HT_.out ?_
  refine tB_ 1 19 HT_.out HW_.out hHeld ?_
  refine tB_ 4 22 HT_.out HW_.out hHeld ?_
  refine pB_ 6 24 HT_.out ?_
  refine pB_ 7 25 HT_.out ?_
  refine tB_ 8 26 HT_.out HW_.out hHeld ?_
  refine one_ (i := 9) (N := some 27) #[true, true, true, true, true, true, true, true, true, true, false, false, false] rfl rfl (one_of HT_.out (by kernel_rfl)) (by decide) (fun K hK => ?_)
  refine goes_ Tryz.func32 (by kernel_rfl) rfl #[.slice A2e (rd_T57 l0_0 x).f2.length c2e] (by rfl) rfl rfl hL_ ?_
  refine (clS.calls A2e c2e (rd_T57 l0_0 x).f2 w _ HB.out HE.out.2.2.2.2 HF.out).mono ?_
  rintro e w4 ⟨v5, rfl, ho, hb⟩
  refine ⟨_, rfl, ?_⟩
  have HOS := a_ (borS ho)
  obtain ⟨A5, c5, e5⟩ := Kd.R_slice HOS.out
  subst e5
  have n0_ := a_ (blk_below B0.out hb)
  have n1_ := a_ (blk_below B1.out hb)
  have n2_ := a_ (below_step HB.out hb)
  have n3_ := a_ (Kd.R_below P0.out hb)
  have n4_ := a_ (And.intro HM'.out hb)
  have HGL := a_ (blk_lt HGC.out)
  have n5_ := a_ (blk_below HGC.out hb)
  have HCC' := a_ (fun j u (hu : [Value.int .i64 (rd_T57 l0_0 x).f0, .int .i64 (rd_T57 l0_0 x).f1, .slice A2e (rd_T57 l0_0 x).f2.length c2e, .string (rd_T57 l0_0 x).f3][j]? = some u) => (hb.cell (World.block_lt_of_cell? w3 _ (HCC.out j u hu))).trans (HCC.out j u hu))
  clear B0 B1 HB P0 HM' HGC
  have B0 := n0_
  have B1 := n1_
  have HB := n2_
  have P0 := n3_
  have HM' := n4_
  have HGC := n5_
  clear n0_ n1_ n2_ n3_ n4_ n5_
  clear HCC ho hb
  refine hK.out _ _ ⟨bc0_ B0.out, HCC'.out 2 _ rfl⟩ (fun hHeld => ?_)
  clear hK K
  refine norm_ (a' := ?_) ?_ ?_
  rotate_left
  · show Act.put _ (some 27) _ = _
    simp only [Act.put, List.setIfInBounds_toArray, List.set_cons_zero, List.set_cons_succ, i64_w, i32_w]
    rfl
  refine pB_ 10 28 HT_.out ?_
  refine pB_ 11 29 HT_.out ?_
  refine last_ (i := 12) (N := none) #[true, true, true, true, true, true, true, true, true, true, true, true, true] rfl rfl (one_of HT_.out (by kernel_rfl)) (by decide) (fun K hK => ?_)
  have hcell := HCC'.out 2 _ rfl
  have hfrz := blk_frozen HGC.out (x.toNat * 4 + 2)
  refine skip_ (w1 := ?_) (by rfl) rfl ?_ ?_
  rotate_left
  · go_simp
    rfl
  refine hK.out _ _ ?_
  clear hK K hHeld
  refine done_ (done_of HT_.out (by kernel_rfl)) ?_
  go_wp2
  obtain ⟨h0, hlt, hbg, hl2e, hC2e⟩ := HE.out
  have hw : wrap64 (x + 1) = x + 1 := wsuccN x h0 (by have := hmx.out; omega)
  have hng1 : g0 ≠ g := blk_ne B0.out HGC.out (by decide)
  have hng2 : g1 ≠ g := blk_ne B1.out HGC.out (by decide)
  have hR' := Kd.R_below (mix_tag (f' := fun k => if k < w3.heap.size then f k else x.toNat) HM'.out.1 (fun k hk => by rw [if_pos hk])) HM'.out.2
  have hST : Kd.string.R 9 w4 w.heap.size (fun k => w3.heap.size ≤ k ∧ (if k < w3.heap.size then f k else x.toNat) = x.toNat) (.slice A5 (rd_T57 l0_0 x).f2.length c5) (rd_T57 l0_0 x).f2 := Kd.R_lower (Kd.R_mono (Kd.R_bound HOS.out) (fun k hk => ⟨hk.2.1, by rw [if_neg (Nat.not_lt.2 hk.2.1)]⟩)) (Nat.le_trans hbg (Nat.le_of_lt HGL.out))
  have hSEG := (Kd.R_seg (okp := fun k => w3.heap.size ≤ k) hR' x h0 (by omega) (seg := [.slice A5 (rd_T57 l0_0 x).f2.length c5]) (j := 2) (x' := (rd_T57 l0_0 x, some x.toNat)) rfl HCC'.out (show 2 + 1 ≤ 4 by decide) (k57_mkM w4 w.heap.size _ (rd_T57 l0_0 x) hST) (fun k hk => ⟨trivial, fun e => by have := HGL.out; omega⟩)).1
  rw [mixL_set l0_0 x.toNat (rd_T57 l0_0 x) (rd_some_N l0_0 x h0 hlt)] at hSEG
  rw [hw]
  refine ⟨⟨x + 1, rfl, ⟨by omega, by omega⟩, ⟨bF_ (p := ⟨g, x.toNat * 4 + 2, none⟩) (u := .slice A5 (rd_T57 l0_0 x).f2.length c5) B0.out hng1⟩, ⟨bF_ (p := ⟨g, x.toNat * 4 + 2, none⟩) (u := .slice A5 (rd_T57 l0_0 x).f2.length c5) B1.out hng2⟩, ⟨Kd.R_drop (Kd.R_far (p := ⟨g, x.toNat * 4 + 2, none⟩) (Kd.R_types P0.out HGC.out (by decide)) (fun _ hk => hk.2) (.slice A5 (rd_T57 l0_0 x).f2.length c5))⟩, ⟨HB.out.setCell (p := ⟨g, x.toNat * 4 + 2, none⟩) hbg (.slice A5 (rd_T57 l0_0 x).f2.length c5)⟩, ⟨⟨fun k => if k < w3.heap.size then f k else x.toNat, ?_⟩⟩⟩, by simp only [intOf]; omega⟩
  rw [show (x + 1).toNat = x.toNat + 1 by omega]
  exact hSEG
theorem session_Copy.calls (A0_0 : Option Addr) (c0_0 : Nat) (l0_0 : List S57) (a0_1 : Int) (A0_2 : Option Addr) (c0_2 : Nat) (l0_2 : List S46) (r1 : List S57) (r2 : Int) (r3 : List S46) (w : World) (hr0_0 : Kd.C k57 w A0_0 l0_0.length l0_0) (hc0_0 : l0_0.length ≤ c0_0) (hr0_2 : Kd.C k46 w A0_2 l0_2.length l0_2) (hc0_2 : l0_2.length ≤ c0_2) (h : session_Copy.f l0_0 a0_1 l0_2 = some (r1, r2, r3)) :
 Calls Tryz.prog 15 #[.agg #[.slice A0_0 l0_0.length c0_0, .int .i64 a0_1, .slice A0_2 l0_2.length c0_2]] w fun e w' => ∃ v0_ v2_ : Value, e = .returned (.agg #[v0_, .int .i64 r2, v2_]) ∧ Kd.S k57 57 w' w.heap.size (fun _ => True) v0_ r1 ∧ Kd.R k46 46 w' w.heap.size (fun _ => True) v2_ r3 ∧ Below w.heap.size w w' := by
 unfold session_Copy.f at h
 by_cases c : sc_fit l0_0 l0_2 = true
 case neg =>
  rw [if_neg c] at h; cases h

 rw [if_pos c] at h
 obtain ⟨rfl, h2⟩ := Prod.mk.inj (Option.some.inj h)
 obtain ⟨rfl, rfl⟩ := Prod.mk.inj h2
 refine (session_Copy.callsS A0_0 c0_0 l0_0 a0_1 A0_2 c0_2 l0_2 w hr0_0 hc0_0 hr0_2 hc0_2 c).mono ?_
 rintro e w' ⟨v0, v2, h1, h2, h3, h4⟩
 exact ⟨v0, v2, h1, h2, h3, h4⟩
set_option maxHeartbeats 8000000
set_option maxRecDepth 100000
attribute [local go_sem] max2_int min2_int max_two min_two max_three min_three max_four min_four   -- for this text's walks alone
set_option linter.unusedVariables false
set_option linter.unusedSimpArgs false

def session_New.f (k : Nat) (l0 : List S57) (a1 : Int) : Option (List S57 × Int × List S46 × Int) := (session_fresh.f k l0 a1).bind fun t => if t = true then (session_Copy.f l0 a1 []).bind fun b => some (b.1, b.2.1, b.2.2, 0) else some ([], 0, [], 2100)
theorem session_New.callsS (k : Nat) (A0 : Option Addr) (c0 : Nat) (l0 : List S57) (a1 : Int) (r1 : List S57) (r2 : Int) (r3 : List S46) (r4 : Int) (w : World) (hr0 : Kd.C k57 w A0 l0.length l0) (hc0 : l0.length ≤ c0) (h : session_New.f k l0 a1 = some (r1, r2, r3, r4)) (hG : GOK w) :
 Calls Tryz.prog 5 #[.slice A0 l0.length c0, .int .i64 a1] w fun e w' => ∃ v0_ v2_ : Value, e = .returned (.tuple #[.agg #[v0_, .int .i64 r2, v2_], .int .i64 r4]) ∧ Kd.S k57 57 w' w.heap.size (fun _ => True) v0_ r1 ∧ Kd.R k46 46 w' w.heap.size (fun _ => True) v2_ r3 ∧ Below w.heap.size w w' := by
 have HR0 := a_ hr0
 have HC0 := a_ hc0
 have HG := a_ hG
 have HB := a_ (Below.refl w.heap.size w)
 have hu := Tryz.underlying25
 unfold session_New.f at h
 obtain ⟨t, A1, h⟩ := Option.bind_eq_some_iff.mp h
 have HA := a_ A1
 clear A1 hr0 hc0 hG
 cases t with
 | false =>
  rw [if_neg Bool.false_ne_true] at h
  obtain ⟨rfl, h2⟩ := Prod.mk.inj (Option.some.inj h)
  obtain ⟨rfl, h3⟩ := Prod.mk.inj h2
  obtain ⟨rfl, rfl⟩ := Prod.mk.inj h3
  clear h h2 h3
  go_enter Tryz.func5, Tryz.ntmps5
  go_wp2_with (first
   | ((with_reducible refine gate_dst (N := 4) rfl ?_); refine boxE_ 4 #[.slice none 0 0, .int .i64 0, .slice none 0 0] 25 ?_; intro g1 hg w1 hbox hb; have E0 := a_ (gE_ hg : w.heap.size ≤ g1); have n0_ := a_ (below_step hB_ hb); clear HB; have HB := n0_; have B0 := a_ hbox; clear n0_ hg hbox hb)
   | ((with_reducible refine gate_dst (N := 6) rfl ?_); refine boxE_ 6 #[.slice none 0 0, .int .i64 0, .slice none 0 0] 25 ?_; intro g0 hg w2 hbox hb; have E1 := a_ (gE_ hg : w.heap.size ≤ g0); have NB := a_ (bL_ B0.out hg : g1 ≠ g0); have n0_ := a_ (below_step hC_ hb); have n1_ := a_ (bB_ B0.out hb); clear HB B0; have HB := n0_; have B0 := n1_; have B1 := a_ hbox; clear n0_ n1_ hg hbox hb; obtain ⟨hc0_, hc1_, hc2_, hf0_, hf1_, hf2_⟩ := bx3_ B1.out)
   | ((with_reducible refine gate_store (t := 25) (p := 6) rfl ?_); refine store_event (t := 25) (p := 6) (v := ?vo) (w1 := (((w2.setCell ⟨g0, 0, none⟩ (.slice A0 l0.length c0)).setCell ⟨g0, 1, none⟩ (.int .i64 a1)).setCell ⟨g0, 2, none⟩ (.slice none 0 0))) ?hg ?ho ?hn ?hr ?_; (case ho => rfl); (case hg => rfl); (case hn => rfl); (case hr => first | (go_simp; done) | (go_simp; rfl)); intro w3 hw; replace B1 := a_ (show w3.heap[g0]? = some (.cells #[.slice A0 l0.length c0, .int .i64 a1, .slice none 0 0] 25 (0, 0)) by rw [hw]; exact bP_ (cs' := #[.slice A0 l0.length c0, .int .i64 a1, .slice none 0 0]) (bP_ (cs' := #[.slice A0 l0.length c0, .int .i64 a1, .slice none 0 0]) (bP_ (cs' := #[.slice A0 l0.length c0, .int .i64 0, .slice none 0 0]) B1.out))); replace B0 := a_ (show w3.heap[g1]? = some (.cells #[.slice none 0 0, .int .i64 0, .slice none 0 0] 25 (0, 0)) by rw [hw]; exact bF_ (bF_ (bF_ B0.out NB.out) NB.out) NB.out); replace HB := a_ (show Below w.heap.size w w3 by rw [hw]; exact below_set (below_set (below_set HB.out E1.out) E1.out) E1.out); clear hw hc0_ hc1_ hc2_ hf0_ hf1_ hf2_; obtain ⟨hc0_, hc1_, hc2_, hf0_, hf1_, hf2_⟩ := bx3_ B1.out)
   | ((with_reducible refine gate_callee (f := 14) rfl ?_); refine goesL_ (some 10) rfl rfl Tryz.func14 (by kernel_rfl) rfl #[.pointer (some ⟨g0, 0, none⟩)] rfl hL_ ?_; refine (session_fresh.calls k ⟨g0, 0, none⟩ A0 c0 l0 a1 false _ (bc0_ B1.out) (bc1_ B1.out) (Kd.C_below HR0.out HB.out) HC0.out HA.out (GOK.below HG.out HB.out)).mono ?_; rintro e w5 ⟨rfl, hb⟩; refine ⟨_, rfl, ?_⟩; replace B1 := a_ (blk_below B1.out hb); replace B0 := a_ (blk_below B0.out hb); replace HB := a_ (below_step HB.out hb); clear hc0_ hc1_ hc2_ hf0_ hf1_ hf2_ hb; obtain ⟨hc0_, hc1_, hc2_, hf0_, hf1_, hf2_⟩ := bx3_ B1.out; obtain ⟨kc0_, kc1_, kc2_, kf0_, kf1_, kf2_⟩ := bx3_ B0.out; have hn1_ := NB.out; have hn2_ := Ne.symm NB.out))
  refine bodyPost_ret (results_ct rfl _ _ g1 25 #[.slice none 0 0, .int .i64 0, .slice none 0 0] (0, 0) _ rfl (bP_ (cs' := #[.slice none 0 0, .int .i64 0, .slice none 0 0]) (bP_ (cs' := #[.slice none 0 0, .int .i64 0, .slice none 0 0]) (bP_ (cs' := #[.slice none 0 0, .int .i64 0, .slice none 0 0]) B0.out))) hu rfl (by kernel_rfl)) rfl ?_
  exact ⟨_, _, rfl, Kd.S_nil _ _ _ _ _, Kd.R_nil _ _ _ _ _, below_set (below_set (below_set HB.out E0.out) E0.out) E0.out⟩
 | true =>
  rw [if_pos rfl] at h
  obtain ⟨b, hb0, h⟩ := Option.bind_eq_some_iff.mp h
  unfold session_Copy.f at hb0
  by_cases c : sc_fit l0 ([] : List S46) = true
  case neg =>
   rw [if_neg c] at hb0; cases hb0
  rw [if_pos c] at hb0
  obtain rfl := Option.some.inj hb0
  obtain ⟨rfl, h2⟩ := Prod.mk.inj (Option.some.inj h)
  obtain ⟨rfl, h3⟩ := Prod.mk.inj h2
  obtain ⟨rfl, rfl⟩ := Prod.mk.inj h3
  have HF := a_ c
  clear h h2 h3 hb0 c
  go_enter Tryz.func5, Tryz.ntmps5
  go_wp2_with (first
   | ((with_reducible refine gate_dst (N := 4) rfl ?_); refine boxE_ 4 #[.slice none 0 0, .int .i64 0, .slice none 0 0] 25 ?_; intro g1 hg w1 hbox hb; have E0 := a_ (gE_ hg : w.heap.size ≤ g1); have n0_ := a_ (below_step hB_ hb); clear HB; have HB := n0_; have B0 := a_ hbox; clear n0_ hg hbox hb)
   | ((with_reducible refine gate_dst (N := 6) rfl ?_); refine boxE_ 6 #[.slice none 0 0, .int .i64 0, .slice none 0 0] 25 ?_; intro g0 hg w2 hbox hb; have E1 := a_ (gE_ hg : w.heap.size ≤ g0); have NB := a_ (bL_ B0.out hg : g1 ≠ g0); have n0_ := a_ (below_step hC_ hb); have n1_ := a_ (bB_ B0.out hb); clear HB B0; have HB := n0_; have B0 := n1_; have B1 := a_ hbox; clear n0_ n1_ hg hbox hb; obtain ⟨hc0_, hc1_, hc2_, hf0_, hf1_, hf2_⟩ := bx3_ B1.out)
   | ((with_reducible refine gate_store (t := 25) (p := 6) rfl ?_); refine store_event (t := 25) (p := 6) (v := ?vo) (w1 := (((w2.setCell ⟨g0, 0, none⟩ (.slice A0 l0.length c0)).setCell ⟨g0, 1, none⟩ (.int .i64 a1)).setCell ⟨g0, 2, none⟩ (.slice none 0 0))) ?hg ?ho ?hn ?hr ?_; (case ho => rfl); (case hg => rfl); (case hn => rfl); (case hr => first | (go_simp; done) | (go_simp; rfl)); intro w3 hw; replace B1 := a_ (show w3.heap[g0]? = some (.cells #[.slice A0 l0.length c0, .int .i64 a1, .slice none 0 0] 25 (0, 0)) by rw [hw]; exact bP_ (cs' := #[.slice A0 l0.length c0, .int .i64 a1, .slice none 0 0]) (bP_ (cs' := #[.slice A0 l0.length c0, .int .i64 a1, .slice none 0 0]) (bP_ (cs' := #[.slice A0 l0.length c0, .int .i64 0, .slice none 0 0]) B1.out))); replace B0 := a_ (show w3.heap[g1]? = some (.cells #[.slice none 0 0, .int .i64 0, .slice none 0 0] 25 (0, 0)) by rw [hw]; exact bF_ (bF_ (bF_ B0.out NB.out) NB.out) NB.out); replace HB := a_ (show Below w.heap.size w w3 by rw [hw]; exact below_set (below_set (below_set HB.out E1.out) E1.out) E1.out); clear hw hc0_ hc1_ hc2_ hf0_ hf1_ hf2_; obtain ⟨hc0_, hc1_, hc2_, hf0_, hf1_, hf2_⟩ := bx3_ B1.out)
   | ((with_reducible refine gate_callee (f := 14) rfl ?_); refine goesL_ (some 10) rfl rfl Tryz.func14 (by kernel_rfl) rfl #[.pointer (some ⟨g0, 0, none⟩)] rfl hL_ ?_; refine (session_fresh.calls k ⟨g0, 0, none⟩ A0 c0 l0 a1 true _ (bc0_ B1.out) (bc1_ B1.out) (Kd.C_below HR0.out HB.out) HC0.out HA.out (GOK.below HG.out HB.out)).mono ?_; rintro e w5 ⟨rfl, hb⟩; refine ⟨_, rfl, ?_⟩; replace B1 := a_ (blk_below B1.out hb); replace B0 := a_ (blk_below B0.out hb); replace HB := a_ (below_step HB.out hb); clear hc0_ hc1_ hc2_ hf0_ hf1_ hf2_ hb; obtain ⟨hc0_, hc1_, hc2_, hf0_, hf1_, hf2_⟩ := bx3_ B1.out; obtain ⟨kc0_, kc1_, kc2_, kf0_, kf1_, kf2_⟩ := bx3_ B0.out; have hn1_ := NB.out; have hn2_ := Ne.symm NB.out)
   | ((with_reducible refine gate_callee (f := 15) rfl ?_); refine goesL_ (some 14) rfl rfl Tryz.func15 (by kernel_rfl) rfl #[.agg #[.slice A0 l0.length c0, .int .i64 a1, .slice none 0 0]] rfl hL_ ?_; refine (session_Copy.callsS A0 c0 l0 a1 none 0 ([] : List S46) _ (Kd.C_below HR0.out HB.out) HC0.out (Kd.C_nil _ _) (Nat.le_refl _) HF.out).mono ?_; rintro e w7 ⟨v0, v2, rfl, ho0, ho2, hb⟩; refine ⟨_, rfl, ?_⟩; have n1_ := a_ (blk_below B0.out hb); have n2_ := a_ (below_step HB.out hb); have P0 := a_ (Kd.S_lower ho0 HB.out.size); have P1 := a_ (Kd.R_lower ho2 HB.out.size); clear hc0_ hc1_ hc2_ hf0_ hf1_ hf2_ kc0_ kc1_ kc2_ kf0_ kf1_ kf2_ B1 B0 HB hb ho0 ho2; have B0 := n1_; have HB := n2_; clear n1_ n2_; obtain ⟨Ao, co, e0⟩ := Kd.S_slice P0.out; subst e0; obtain ⟨a0, o0, e2⟩ := Kd.R_slice P1.out; subst e2; obtain ⟨kc0_, kc1_, kc2_, kf0_, kf1_, kf2_⟩ := bx3_ B0.out))
  refine bodyPost_ret (results_ct rfl _ _ g1 25 #[.slice Ao l0.length co, .int .i64 a1, .slice a0 ([] : List S46).length o0] (0, 0) _ rfl (bP_ (cs' := #[.slice Ao l0.length co, .int .i64 a1, .slice a0 ([] : List S46).length o0]) (bP_ (cs' := #[.slice Ao l0.length co, .int .i64 a1, .slice none 0 0]) (bP_ (cs' := #[.slice Ao l0.length co, .int .i64 0, .slice none 0 0]) B0.out))) hu rfl (by kernel_rfl)) rfl ?_
  refine ⟨_, _, rfl, ?_, ?_, below_set (below_set (below_set HB.out E0.out) E0.out) E0.out⟩
  · exact Kd.S_mono (sF_ (sF_ (sF_ (Kd.S_types P0.out B0.out (by decide))))) (fun _ _ => trivial)
  · exact Kd.R_mono (rF_ (rF_ (rF_ (Kd.R_types P1.out B0.out (by decide))))) (fun _ _ => trivial)
theorem session_New.calls (k : Nat) (A0 : Option Addr) (c0 : Nat) (l0 : List S57) (a1 : Int) (r1 : List S57) (r2 : Int) (r3 : List S46) (r4 : Int) (w : World) (hr0 : Kd.C k57 w A0 l0.length l0) (hc0 : l0.length ≤ c0) (h : session_New.f k l0 a1 = some (r1, r2, r3, r4)) (hG : GOK w) :
 Calls Tryz.prog 5 #[.slice A0 l0.length c0, .int .i64 a1] w fun e w' => ∃ v0_ v2_ : Value, e = .returned (.tuple #[.agg #[v0_, .int .i64 r2, v2_], .int .i64 r4]) ∧ Kd.S k57 57 w' w.heap.size (fun _ => True) v0_ r1 ∧ Kd.R k46 46 w' w.heap.size (fun _ => True) v2_ r3 ∧ Below w.heap.size w w' := by
 refine (session_New.callsS k A0 c0 l0 a1 r1 r2 r3 r4 w hr0 hc0 h hG).mono ?_
 rintro e w' ⟨v0, v2, h1, h2, h3, h4⟩
 exact ⟨v0, v2, h1, h2, h3, h4⟩

set_option maxHeartbeats 8000000
set_option maxRecDepth 100000
attribute [local go_sem] max2_int min2_int max_two min_two max_three min_three max_four min_four   -- for this text's walks alone
set_option linter.unusedVariables false
set_option linter.unusedSimpArgs false

def session_May.l0 : Nat → List S57 → Int → List S46 → List Int → Int → Option Bool
 | 0, _, _, _, _, _ => none
 | k + 1, ns, wy, zs, ms, x => if x < (zs.length : Int) then (next_Ask.f k wy ns ms).bind fun b => if (!(b.1 == 0) || (!(b.2 == (rd_T46 zs x).f0))) = true then some false else (next_Mark.f (rd_T46 zs x).f1).bind fun t => if t = true then (if 0 ≤ (rd_T46 zs x).f0 ∧ (rd_T46 zs x).f0 < (ms.length : Int) then session_May.l0 k ns wy zs (ms.set (rd_T46 zs x).f0.toNat (rd_T46 zs x).f1) (wrap64 (x + 1)) else none) else some false else some true
def session_May.f (k : Nat) (l0_0 : List S57) (a0_1 : Int) (l0_2 : List S46) : Option Bool := (session_fresh.f k l0_0 a0_1).bind fun t => if t = true then session_May.l0 k l0_0 a0_1 l0_2 (List.replicate l0_0.length 0) 0 else some false
def session_May.T8 : Bool × List (List Nat × List Nat) := (true, [([], []), ([0], [0]), ([], []), ([2], [2]), ([], []), ([1, 3, 4], [1, 3, 4]), ([], []), ([5, 6], [5, 6]), ([7, 5], [7]), ([8], [8]), ([9, 8], [8, 9]), ([10, 8, 8], [8, 10]), ([11, 8], [8, 11]), ([8, 12], [8, 12])])
def session_May.B8 : List Nat := [0, 1, 0, 4, 0, 31, 0, 127, 255, 511, 1023, 2047, 4095, 8191]
theorem session_May.tab8 : rtab .any (opsOf Tryz.f9 8) = session_May.T8 := by kernel_rfl
theorem session_May.bits8 : waitsOk session_May.T8.2 session_May.B8 = true := by kernel_rfl
theorem wsuccM (x : Int) (h0 : 0 ≤ x) (h1 : x ≤ 9223372036854775806) : wrap64 (x + 1) = x + 1 := by unfold wrap64; omega
theorem eqAM (d : Nat) (w : World) (x0 y0 : Int) (x1 y1 : Int) :
 (Op.equalIn (d + 2) 48 (.agg #[.int .i64 x0, .int .i64 x1]) (.agg #[.int .i64 y0, .int .i64 y1])).run Tryz.prog w = .ok (x0 == y0 && (x1 == y1)) w := by
 refine eqA_of Tryz.underlying48 (by kernel_rfl) ?_
 refine eqf_cons (by rfl) (by go_simp; rfl) (by go_simp; rfl) (by go_simp) ?_
 exact eqf_last (by rfl) (by go_simp; rfl) (by go_simp; rfl) (by go_simp)
section
attribute [local go_sem high] eqAM
theorem session_May.calls (k : Nat) (A0_0 : Option Addr) (c0_0 : Nat) (l0_0 : List S57) (a0_1 : Int) (A0_2 : Option Addr) (c0_2 : Nat) (l0_2 : List S46) (r : Bool) (w : World) (hr0_0 : Kd.C k57 w A0_0 l0_0.length l0_0) (hc0_0 : l0_0.length ≤ c0_0) (hr0_2 : Kd.C k46 w A0_2 l0_2.length l0_2) (hc0_2 : l0_2.length ≤ c0_2) (h : session_May.f k l0_0 a0_1 l0_2 = some r) (hG : GOK w) :
 Calls Tryz.prog 9 #[.agg #[.slice A0_0 l0_0.length c0_0, .int .i64 a0_1, .slice A0_2 l0_2.length c0_2]] w fun e w' => e = .returned (.bool r) ∧ Below w.heap.size w w' := by
 have HR0 := a_ hr0_0
 have HC0 := a_ hc0_0
 have HR2 := a_ hr0_2
 have HG := a_ hG
 have HB := a_ (Below.refl w.heap.size w)
 have hu := Tryz.underlying25
 have hu1 := Tryz.underlying48
 have hu2 := Tryz.underlying46
 unfold session_May.f at h
 obtain ⟨t, A1, h⟩ := Option.bind_eq_some_iff.mp h
 have HF := a_ A1
 clear hr0_0 hc0_0 hr0_2 hc0_2 hG
 cases t with
 | false =>
  rw [if_neg Bool.false_ne_true] at h
  obtain rfl := Option.some.inj h
  clear h A1
  go_enter Tryz.func9, Tryz.ntmps9
  go_wp2_with (first
   | ((with_reducible refine gate_dst (N := 1) rfl ?_); refine boxE_ 1 #[.slice A0_0 l0_0.length c0_0, .int .i64 a0_1, .slice A0_2 l0_2.length c0_2] 25 ?_; intro g0 hg w1 hbox hb; have E2 := a_ (gE_ hg : w.heap.size ≤ g0); have n0_ := a_ (below_step hB_ hb); clear HB; have HB := n0_; have B0 := a_ hbox; clear n0_ hg hbox hb)
   | ((with_reducible refine gate_callee (f := 14) rfl ?_); refine goesL_ (some 7) rfl rfl Tryz.func14 (by kernel_rfl) rfl #[.pointer (some ⟨g0, 0, none⟩)] rfl hL_ ?_; refine (session_fresh.calls k ⟨g0, 0, none⟩ A0_0 c0_0 l0_0 a0_1 false _ (bc0_ B0.out) (bc1_ B0.out) (Kd.C_below HR0.out HB.out) HC0.out HF.out (GOK.below HG.out HB.out)).mono ?_; rintro e w2 ⟨rfl, hb⟩; refine ⟨_, rfl, ?_⟩; have n0_ := a_ (blk_below B0.out hb); have n2_ := a_ (below_step HB.out hb); clear B0 HB hb; have B0 := n0_; have HB := n2_; clear n0_ n2_; obtain ⟨g0_, g1_, g2_, g3_, g4_, g5_⟩ := bx3_ B0.out))
  go_ret
  exact ⟨rfl, HB.out⟩
 | true =>
  rw [if_pos rfl] at h
  have HN := a_ (session_fresh.true_spec A1)
  have H' := a_ h
  clear h A1
  go_enter Tryz.func9, Tryz.ntmps9
  go_wp2_with (first
   | ((with_reducible refine gate_dst (N := 1) rfl ?_); refine boxE_ 1 #[.slice A0_0 l0_0.length c0_0, .int .i64 a0_1, .slice A0_2 l0_2.length c0_2] 25 ?_; intro g0 hg w1 hbox hb; have E2 := a_ (gE_ hg : w.heap.size ≤ g0); have n0_ := a_ (below_step hB_ hb); clear HB; have HB := n0_; have B0 := a_ hbox; clear n0_ hg hbox hb)
   | ((with_reducible refine gate_callee (f := 14) rfl ?_); refine goesL_ (some 7) rfl rfl Tryz.func14 (by kernel_rfl) rfl #[.pointer (some ⟨g0, 0, none⟩)] rfl hL_ ?_; refine (session_fresh.calls k ⟨g0, 0, none⟩ A0_0 c0_0 l0_0 a0_1 true _ (bc0_ B0.out) (bc1_ B0.out) (Kd.C_below HR0.out HB.out) HC0.out HF.out (GOK.below HG.out HB.out)).mono ?_; rintro e w2 ⟨rfl, hb⟩; refine ⟨_, rfl, ?_⟩; have n0_ := a_ (blk_below B0.out hb); have n2_ := a_ (below_step HB.out hb); clear B0 HB hb; have B0 := n0_; have HB := n2_; clear n0_ n2_; obtain ⟨g0_, g1_, g2_, g3_, g4_, g5_⟩ := bx3_ B0.out)
   | ((with_reducible refine gate_dst (N := 12) rfl ?_); refine Kd.R_make (Kd.int .i64) _ 3 rfl (N := 12) rfl 44 _ _ rfl (l0_0.length : Int) rfl rfl Tryz.underlying44 (.int .i64 0) 8 info3 rfl (by decide) (by omega) 0 (ok := fun _ => True) (okp := fun _ => True) rfl (fun _ hk => hk) trivial (Int.natCast_nonneg _) (by have := HN.out; simp only [Int.toNat_natCast]; omega) (Below.refl _ _) (Nat.le_refl _) ?_; intro v0 w3 ho hb hg_ hnew_; rw [Int.toNat_natCast] at ho; have HM := a_ (Kd.R_lower ho HB.out.size); replace B0 := a_ (blk_below B0.out hb); replace HB := a_ (below_step HB.out hb); clear g0_ g1_ g2_ g3_ g4_ g5_ hg_ hnew_ hb ho; obtain ⟨g0_, g1_, g2_, g3_, g4_, g5_⟩ := bx3_ B0.out))
  go_loopg [16] k (fun kq v w' => ∃ (ms : List Int) (x : Int), v = .int .i64 x ∧ Aside0 (session_May.l0 kq l0_0 a0_1 l0_2 ms x = some r) ∧ Aside0 (kq ≤ k) ∧ Aside0 (0 ≤ x) ∧ Aside0 (Kd.R (Kd.int .i64) 3 w' w.heap.size (fun _ => True) v0 ms) ∧ Aside0 (w'.heap[g0]? = some (.cells #[.slice A0_0 l0_0.length c0_0, .int .i64 a0_1, .slice A0_2 l0_2.length c0_2] 25 (0, 0))) ∧ Aside0 (Below w.heap.size w w'))
  case atStart => exact ⟨_, 0, rfl, H', ⟨Nat.le_refl _⟩, ⟨by omega⟩, HM, B0, HB⟩
  case round =>
   clear H' HB HM B0 g0_ g1_ g2_ g3_ g4_ g5_
   obtain ⟨ms, x, rfl, HA, HK1, HX, HM, B0, HB⟩ := hrel
   cases gk with
   | zero => exact absurd HA.out (by simp [session_May.l0])
   | succ k1 =>
    have H := HA.out
    clear HA
    simp only [session_May.l0] at H
    by_cases c : x < (l0_2.length : Int)
    case neg =>
     rw [if_neg c] at H
     have cb_ := decide_eq_false c
     obtain rfl := Option.some.inj H
     clear c H
     go_wp2
     go_ret
     exact ⟨rfl, HB.out⟩
    rw [if_pos c] at H
    have cb_ := decide_eq_true c
    obtain ⟨⟨b1, b2⟩, HA0, H⟩ := Option.bind_eq_some_iff.mp H
    have HA := a_ HA0
    clear HA0
    obtain ⟨ad, e0, h0, h1⟩ := at_T46 HR2.out x HX.out c
    cases e0
    replace h0 := cl_ HB.out h0
    replace h1 := cl_ HB.out h1
    have p_ := eq_true HX.out
    have q_ := eq_true c
    by_cases c2 : (!(b1 == 0) || (!(b2 == (rd_T46 l0_2 x).f0))) = true
    case pos =>
     rw [if_pos c2] at H
     obtain rfl := Option.some.inj H
     clear c H
     go_wp2_with (first
      | ((with_reducible refine gate_dst (N := 5) rfl ?_); refine boxE_ 5 #[.int .i64 0, .int .i64 0] 46 ?_; intro g1 hg w5 hbox hb; have E0 := a_ (gE_ hg : w.heap.size ≤ g1); have N0 := a_ (bL_ B0.out hg : g0 ≠ g1); have n0_ := a_ (Kd.R_below (hR_ HM.out) hb); have n1_ := a_ (bB_ B0.out hb); have n2_ := a_ (below_step hC_ hb); have B1 := a_ hbox; clear HM B0 HB hg hbox hb; have HM := n0_; have B0 := n1_; have HB := n2_; clear n0_ n1_ n2_; obtain ⟨d0_, d1_, d2_, d3_⟩ := bx2_ B1.out)
      | ((with_reducible refine gate_store (t := 46) (p := 5) rfl ?_); refine store_event (t := 46) (p := 5) (v := ?vo5) (w1 := ((w5.setCell ⟨g1, 0, none⟩ (.int .i64 (rd_T46 l0_2 x).f0)).setCell ⟨g1, 1, none⟩ (.int .i64 (rd_T46 l0_2 x).f1))) ?hg ?ho ?hn ?hr ?_; (case ho => rfl); (case hg => rfl); (case hn => rfl); (case hr => first | (go_simp; done) | (go_simp; rfl)); intro w6 hw; replace B0 := a_ (show w6.heap[g0]? = some (.cells #[.slice A0_0 l0_0.length c0_0, .int .i64 a0_1, .slice (some ad) l0_2.length c0_2] 25 (0, 0)) by rw [hw]; exact bF_ (bF_ B0.out N0.out) N0.out); replace HM := a_ (show Kd.R (Kd.int .i64) 3 w6 w.heap.size (fun _ => True) v0 ms by rw [hw]; exact Kd.R_mono (rF_ (rF_ (Kd.R_types HM.out B1.out (by decide)))) (fun _ _ => trivial)); replace B1 := a_ (show w6.heap[g1]? = some (.cells #[.int .i64 (rd_T46 l0_2 x).f0, .int .i64 (rd_T46 l0_2 x).f1] 46 (0, 0)) by rw [hw]; exact bP_ (bP_ (cs' := #[.int .i64 (rd_T46 l0_2 x).f0, .int .i64 0]) B1.out)); replace HB := a_ (show Below w.heap.size w w6 by rw [hw]; exact below_set (below_set HB.out E0.out) E0.out); clear hw d0_ d1_ d2_ d3_; obtain ⟨d0_, d1_, d2_, d3_⟩ := bx2_ B1.out)
      | ((with_reducible refine gate_dst (N := 6) rfl ?_); refine boxE_ 6 #[.int .i64 0, .int .i64 0] 48 ?_; intro g2 hg w7 hbox hb; have E1 := a_ (gE_ hg : w.heap.size ≤ g2); have N1 := a_ (bL_ B0.out hg : g0 ≠ g2); have N2 := a_ (bL_ B1.out hg : g1 ≠ g2); have n0_ := a_ (Kd.R_below (hR_ HM.out) hb); have n1_ := a_ (bB_ B0.out hb); have n2_ := a_ (below_step hC_ hb); have n3_ := a_ (bB_ B1.out hb); have B2 := a_ hbox; clear d0_ d1_ d2_ d3_ HM B0 HB B1 hg hbox hb; have HM := n0_; have B0 := n1_; have HB := n2_; have B1 := n3_; clear n0_ n1_ n2_ n3_; obtain ⟨d0_, d1_, d2_, d3_⟩ := bx2_ B2.out)
      | ((with_reducible refine gate_store (t := 48) (p := 6) rfl ?_); refine store_event (t := 48) (p := 6) (v := ?vo6) (w1 := ((w7.setCell ⟨g2, 0, none⟩ (.int .i64 0)).setCell ⟨g2, 1, none⟩ (.int .i64 (rd_T46 l0_2 x).f0))) ?hg ?ho ?hn ?hr ?_; (case ho => rfl); (case hg => rfl); (case hn => rfl); (case hr => first | (go_simp; done) | (go_simp; rfl)); intro w8 hw; replace B0 := a_ (show w8.heap[g0]? = some (.cells #[.slice A0_0 l0_0.length c0_0, .int .i64 a0_1, .slice (some ad) l0_2.length c0_2] 25 (0, 0)) by rw [hw]; exact bF_ (bF_ B0.out N1.out) N1.out); replace HM := a_ (show Kd.R (Kd.int .i64) 3 w8 w.heap.size (fun _ => True) v0 ms by rw [hw]; exact Kd.R_mono (rF_ (rF_ (Kd.R_types HM.out B2.out (by decide)))) (fun _ _ => trivial)); replace B2 := a_ (show w8.heap[g2]? = some (.cells #[.int .i64 0, .int .i64 (rd_T46 l0_2 x).f0] 48 (0, 0)) by rw [hw]; exact bP_ (bP_ (cs' := #[.int .i64 0, .int .i64 0]) B2.out)); replace HB := a_ (show Below w.heap.size w w8 by rw [hw]; exact below_set (below_set HB.out E1.out) E1.out); replace B1 := a_ (show w8.heap[g1]? = some (.cells #[.int .i64 (rd_T46 l0_2 x).f0, .int .i64 (rd_T46 l0_2 x).f1] 46 (0, 0)) by rw [hw]; exact bF_ (bF_ B1.out N2.out) N2.out); clear hw d0_ d1_ d2_ d3_; obtain ⟨g0_, g1_, g2_, g3_, g4_, g5_⟩ := bx3_ B0.out))
     clear g0_ g1_ g2_ g3_ g4_ g5_
     replace B0 := a_ (blk_drew B0.out)
     replace B1 := a_ (blk_drew B1.out)
     replace B2 := a_ (blk_drew B2.out)
     replace HM := a_ (Kd.R_drew HM.out)
     replace HB := a_ (below_drew1 HB.out)
     obtain ⟨Am, cm, em⟩ := Kd.R_slice HM.out
     subst em
     refine start_ (n := 14) (S := fun w' => w'.cell? ⟨g0, 0, none⟩ = some (.slice A0_0 l0_0.length c0_0) ∧ w'.cell? ⟨g0, 1, none⟩ = some (.int .i64 a0_1) ∧ w'.cell? ⟨g2, 0, none⟩ = some (.int .i64 0) ∧ w'.cell? ⟨g2, 1, none⟩ = some (.int .i64 (rd_T46 l0_2 x).f0) ∧ w'.cell? ⟨g1, 1, none⟩ = some (.int .i64 (rd_T46 l0_2 x).f1)) (ds := []) #[false, false, false, false, false, false, false, false, false, false, false, false, false, false] (by kernel_rfl) rfl rfl ⟨bc0_ B0.out, bc1_ B0.out, bc0_ B2.out, bc1_ B2.out, bc1_ B1.out⟩ (fun hHeld => ?_)
     refine with_tabW session_May.tab8 session_May.bits8 (fun HT_ HW_ => ?_)
     generalize w8.drew = w9 at B0 B1 B2 HM HB hHeld ⊢
     refine pB_ 0 23 HT_.out ?_
     refine pB_ 2 25 HT_.out ?_
     refine pB_ 4 27 HT_.out ?_
     refine tB_ 1 24 HT_.out HW_.out hHeld ?_
     refine tB_ 3 26 HT_.out HW_.out hHeld ?_
     refine tB_ 6 29 HT_.out HW_.out hHeld ?_
     refine one_ (i := 5) (N := some 28) #[true, true, true, true, true, true, true, false, false, false, false, false, false, false] rfl rfl (one_of HT_.out (by kernel_rfl)) (by decide) (fun K hK => ?_)
     refine goes_ Tryz.func21 (by kernel_rfl) rfl #[.int .i64 a0_1, .slice A0_0 l0_0.length c0_0, .slice Am ms.length cm] (by rfl) rfl rfl hL_ ?_
     refine (next_Ask.calls k1 a0_1 A0_0 c0_0 l0_0 Am cm ms b1 b2 _ (Kd.C_below HR0.out HB.out) HC0.out (Kd.R_reads' HM.out).2.2 (Kd.R_reads' HM.out).2.1 HA.out (GOK.below HG.out HB.out)).mono ?_
     rintro e w0 ⟨rfl, hb⟩
     refine ⟨_, rfl, ?_⟩
     replace B0 := a_ (blk_below B0.out hb)
     replace B1 := a_ (blk_below B1.out hb)
     replace B2 := a_ (blk_below B2.out hb)
     replace HM := a_ (Kd.R_below HM.out hb)
     replace HB := a_ (below_step HB.out hb)
     clear hb
     refine hK.out _ _ ⟨bc0_ B0.out, bc1_ B0.out, bc0_ B2.out, bc1_ B2.out, bc1_ B1.out⟩ (fun hHeld => ?_)
     clear hK K
     refine norm_ (a' := ?_) ?_ ?_
     rotate_left
     · show Act.put _ (some 28) _ = _
       simp only [Act.put, List.setIfInBounds_toArray, List.set_cons_zero, List.set_cons_succ, i64_w, i32_w]
       rfl
     refine pB_ 7 30 HT_.out ?_
     refine pB_ 8 31 HT_.out ?_
     refine pN_ 9 32 #[true, true, true, true, true, true, true, true, true, true, false, false, false, false] HT_.out ?_
     refine pN_ 10 33 #[true, true, true, true, true, true, true, true, true, true, true, false, false, false] HT_.out ?_
     refine pN_ 11 34 #[true, true, true, true, true, true, true, true, true, true, true, true, false, false] HT_.out ?_
     refine pN_ 12 35 #[true, true, true, true, true, true, true, true, true, true, true, true, true, false] HT_.out ?_
     refine pB_ 13 36 HT_.out ?_
     refine done_ (done_of HT_.out (by kernel_rfl)) ?_
     clear HT_ HW_ hHeld
     go_wp2
     go_ret
     exact ⟨rfl, HB.out⟩
    rw [if_neg c2] at H
    replace c2 : (!(b1 == 0) || (!(b2 == (rd_T46 l0_2 x).f0))) = false := by simpa using c2
    obtain ⟨t, HT0, H⟩ := Option.bind_eq_some_iff.mp H
    have HT2 := a_ HT0
    clear HT0
    cases t with
    | false =>
     rw [if_neg Bool.false_ne_true] at H
     obtain rfl := Option.some.inj H
     clear c H
     go_wp2_with (first
      | ((with_reducible refine gate_dst (N := 5) rfl ?_); refine boxE_ 5 #[.int .i64 0, .int .i64 0] 46 ?_; intro g1 hg w5 hbox hb; have E0 := a_ (gE_ hg : w.heap.size ≤ g1); have N0 := a_ (bL_ B0.out hg : g0 ≠ g1); have n0_ := a_ (Kd.R_below (hR_ HM.out) hb); have n1_ := a_ (bB_ B0.out hb); have n2_ := a_ (below_step hC_ hb); have B1 := a_ hbox; clear HM B0 HB hg hbox hb; have HM := n0_; have B0 := n1_; have HB := n2_; clear n0_ n1_ n2_; obtain ⟨d0_, d1_, d2_, d3_⟩ := bx2_ B1.out)
      | ((with_reducible refine gate_store (t := 46) (p := 5) rfl ?_); refine store_event (t := 46) (p := 5) (v := ?vo5) (w1 := ((w5.setCell ⟨g1, 0, none⟩ (.int .i64 (rd_T46 l0_2 x).f0)).setCell ⟨g1, 1, none⟩ (.int .i64 (rd_T46 l0_2 x).f1))) ?hg ?ho ?hn ?hr ?_; (case ho => rfl); (case hg => rfl); (case hn => rfl); (case hr => first | (go_simp; done) | (go_simp; rfl)); intro w6 hw; replace B0 := a_ (show w6.heap[g0]? = some (.cells #[.slice A0_0 l0_0.length c0_0, .int .i64 a0_1, .slice (some ad) l0_2.length c0_2] 25 (0, 0)) by rw [hw]; exact bF_ (bF_ B0.out N0.out) N0.out); replace HM := a_ (show Kd.R (Kd.int .i64) 3 w6 w.heap.size (fun _ => True) v0 ms by rw [hw]; exact Kd.R_mono (rF_ (rF_ (Kd.R_types HM.out B1.out (by decide)))) (fun _ _ => trivial)); replace B1 := a_ (show w6.heap[g1]? = some (.cells #[.int .i64 (rd_T46 l0_2 x).f0, .int .i64 (rd_T46 l0_2 x).f1] 46 (0, 0)) by rw [hw]; exact bP_ (bP_ (cs' := #[.int .i64 (rd_T46 l0_2 x).f0, .int .i64 0]) B1.out)); replace HB := a_ (show Below w.heap.size w w6 by rw [hw]; exact below_set (below_set HB.out E0.out) E0.out); clear hw d0_ d1_ d2_ d3_; obtain ⟨d0_, d1_, d2_, d3_⟩ := bx2_ B1.out)
      | ((with_reducible refine gate_dst (N := 6) rfl ?_); refine boxE_ 6 #[.int .i64 0, .int .i64 0] 48 ?_; intro g2 hg w7 hbox hb; have E1 := a_ (gE_ hg : w.heap.size ≤ g2); have N1 := a_ (bL_ B0.out hg : g0 ≠ g2); have N2 := a_ (bL_ B1.out hg : g1 ≠ g2); have n0_ := a_ (Kd.R_below (hR_ HM.out) hb); have n1_ := a_ (bB_ B0.out hb); have n2_ := a_ (below_step hC_ hb); have n3_ := a_ (bB_ B1.out hb); have B2 := a_ hbox; clear d0_ d1_ d2_ d3_ HM B0 HB B1 hg hbox hb; have HM := n0_; have B0 := n1_; have HB := n2_; have B1 := n3_; clear n0_ n1_ n2_ n3_; obtain ⟨d0_, d1_, d2_, d3_⟩ := bx2_ B2.out)
      | ((with_reducible refine gate_store (t := 48) (p := 6) rfl ?_); refine store_event (t := 48) (p := 6) (v := ?vo6) (w1 := ((w7.setCell ⟨g2, 0, none⟩ (.int .i64 0)).setCell ⟨g2, 1, none⟩ (.int .i64 (rd_T46 l0_2 x).f0))) ?hg ?ho ?hn ?hr ?_; (case ho => rfl); (case hg => rfl); (case hn => rfl); (case hr => first | (go_simp; done) | (go_simp; rfl)); intro w8 hw; replace B0 := a_ (show w8.heap[g0]? = some (.cells #[.slice A0_0 l0_0.length c0_0, .int .i64 a0_1, .slice (some ad) l0_2.length c0_2] 25 (0, 0)) by rw [hw]; exact bF_ (bF_ B0.out N1.out) N1.out); replace HM := a_ (show Kd.R (Kd.int .i64) 3 w8 w.heap.size (fun _ => True) v0 ms by rw [hw]; exact Kd.R_mono (rF_ (rF_ (Kd.R_types HM.out B2.out (by decide)))) (fun _ _ => trivial)); replace B2 := a_ (show w8.heap[g2]? = some (.cells #[.int .i64 0, .int .i64 (rd_T46 l0_2 x).f0] 48 (0, 0)) by rw [hw]; exact bP_ (bP_ (cs' := #[.int .i64 0, .int .i64 0]) B2.out)); replace HB := a_ (show Below w.heap.size w w8 by rw [hw]; exact below_set (below_set HB.out E1.out) E1.out); replace B1 := a_ (show w8.heap[g1]? = some (.cells #[.int .i64 (rd_T46 l0_2 x).f0, .int .i64 (rd_T46 l0_2 x).f1] 46 (0, 0)) by rw [hw]; exact bF_ (bF_ B1.out N2.out) N2.out); clear hw d0_ d1_ d2_ d3_; obtain ⟨g0_, g1_, g2_, g3_, g4_, g5_⟩ := bx3_ B0.out))
     clear g0_ g1_ g2_ g3_ g4_ g5_
     replace B0 := a_ (blk_drew B0.out)
     replace B1 := a_ (blk_drew B1.out)
     replace B2 := a_ (blk_drew B2.out)
     replace HM := a_ (Kd.R_drew HM.out)
     replace HB := a_ (below_drew1 HB.out)
     obtain ⟨Am, cm, em⟩ := Kd.R_slice HM.out
     subst em
     refine start_ (n := 14) (S := fun w' => w'.cell? ⟨g0, 0, none⟩ = some (.slice A0_0 l0_0.length c0_0) ∧ w'.cell? ⟨g0, 1, none⟩ = some (.int .i64 a0_1) ∧ w'.cell? ⟨g2, 0, none⟩ = some (.int .i64 0) ∧ w'.cell? ⟨g2, 1, none⟩ = some (.int .i64 (rd_T46 l0_2 x).f0) ∧ w'.cell? ⟨g1, 1, none⟩ = some (.int .i64 (rd_T46 l0_2 x).f1)) (ds := []) #[false, false, false, false, false, false, false, false, false, false, false, false, false, false] (by kernel_rfl) rfl rfl ⟨bc0_ B0.out, bc1_ B0.out, bc0_ B2.out, bc1_ B2.out, bc1_ B1.out⟩ (fun hHeld => ?_)
     refine with_tabW session_May.tab8 session_May.bits8 (fun HT_ HW_ => ?_)
     generalize w8.drew = w9 at B0 B1 B2 HM HB hHeld ⊢
     refine pB_ 0 23 HT_.out ?_
     refine pB_ 2 25 HT_.out ?_
     refine pB_ 4 27 HT_.out ?_
     refine tB_ 1 24 HT_.out HW_.out hHeld ?_
     refine tB_ 3 26 HT_.out HW_.out hHeld ?_
     refine tB_ 6 29 HT_.out HW_.out hHeld ?_
     refine one_ (i := 5) (N := some 28) #[true, true, true, true, true, true, true, false, false, false, false, false, false, false] rfl rfl (one_of HT_.out (by kernel_rfl)) (by decide) (fun K hK => ?_)
     refine goes_ Tryz.func21 (by kernel_rfl) rfl #[.int .i64 a0_1, .slice A0_0 l0_0.length c0_0, .slice Am ms.length cm] (by rfl) rfl rfl hL_ ?_
     refine (next_Ask.calls k1 a0_1 A0_0 c0_0 l0_0 Am cm ms b1 b2 _ (Kd.C_below HR0.out HB.out) HC0.out (Kd.R_reads' HM.out).2.2 (Kd.R_reads' HM.out).2.1 HA.out (GOK.below HG.out HB.out)).mono ?_
     rintro e w0 ⟨rfl, hb⟩
     refine ⟨_, rfl, ?_⟩
     replace B0 := a_ (blk_below B0.out hb)
     replace B1 := a_ (blk_below B1.out hb)
     replace B2 := a_ (blk_below B2.out hb)
     replace HM := a_ (Kd.R_below HM.out hb)
     replace HB := a_ (below_step HB.out hb)
     clear hb
     refine hK.out _ _ ⟨bc0_ B0.out, bc1_ B0.out, bc0_ B2.out, bc1_ B2.out, bc1_ B1.out⟩ (fun hHeld => ?_)
     clear hK K
     refine norm_ (a' := ?_) ?_ ?_
     rotate_left
     · show Act.put _ (some 28) _ = _
       simp only [Act.put, List.setIfInBounds_toArray, List.set_cons_zero, List.set_cons_succ, i64_w, i32_w]
       rfl
     refine pB_ 7 30 HT_.out ?_
     refine pB_ 8 31 HT_.out ?_
     refine pB_ 9 32 HT_.out ?_
     refine tB_ 10 33 HT_.out HW_.out hHeld ?_
     refine one_ (i := 11) (N := some 34) #[true, true, true, true, true, true, true, true, true, true, true, true, false, false] rfl rfl (one_of HT_.out (by kernel_rfl)) (by decide) (fun K hK => ?_)
     refine goes_ Tryz.func22 (by kernel_rfl) rfl #[.int .i64 (rd_T46 l0_2 x).f1] (by rfl) rfl rfl hL_ ?_
     refine (next_Mark.calls (rd_T46 l0_2 x).f1 false _ HT2.out).mono ?_
     rintro e w4 ⟨rfl, ⟨nd, rfl⟩⟩
     refine ⟨_, rfl, ?_⟩
     replace B0 := a_ (blk_drewN B0.out nd)
     replace B1 := a_ (blk_drewN B1.out nd)
     replace B2 := a_ (blk_drewN B2.out nd)
     replace HM := a_ (Kd.R_drewN HM.out nd)
     replace HB := a_ (below_dn HB.out nd)
     refine hK.out _ _ ⟨bc0_ B0.out, bc1_ B0.out, bc0_ B2.out, bc1_ B2.out, bc1_ B1.out⟩ (fun hHeld => ?_)
     clear hK K
     refine norm_ (a' := ?_) ?_ ?_
     rotate_left
     · show Act.put _ (some 34) _ = _
       simp only [Act.put, List.setIfInBounds_toArray, List.set_cons_zero, List.set_cons_succ, i64_w, i32_w]
       rfl
     generalize w0.drewN nd = w12 at B0 B1 B2 HM HB hHeld ⊢
     refine pB_ 12 35 HT_.out ?_
     refine pB_ 13 36 HT_.out ?_
     refine done_ (done_of HT_.out (by kernel_rfl)) ?_
     clear HT_ HW_ hHeld
     go_wp2
     go_ret
     exact ⟨rfl, HB.out⟩
    | true =>
     rw [if_pos rfl] at H
     obtain ⟨hX2, H⟩ := ifI_ H
     have X0 := a_ hX2
     have H' := a_ H
     have HCX := a_ c
     clear c H hX2
     go_wp2_with (first
      | ((with_reducible refine gate_dst (N := 5) rfl ?_); refine boxE_ 5 #[.int .i64 0, .int .i64 0] 46 ?_; intro g1 hg w5 hbox hb; have E0 := a_ (gE_ hg : w.heap.size ≤ g1); have N0 := a_ (bL_ B0.out hg : g0 ≠ g1); have n0_ := a_ (Kd.R_below (hR_ HM.out) hb); have n1_ := a_ (bB_ B0.out hb); have n2_ := a_ (below_step hC_ hb); have B1 := a_ hbox; clear HM B0 HB hg hbox hb; have HM := n0_; have B0 := n1_; have HB := n2_; clear n0_ n1_ n2_; obtain ⟨d0_, d1_, d2_, d3_⟩ := bx2_ B1.out)
      | ((with_reducible refine gate_store (t := 46) (p := 5) rfl ?_); refine store_event (t := 46) (p := 5) (v := ?vo5) (w1 := ((w5.setCell ⟨g1, 0, none⟩ (.int .i64 (rd_T46 l0_2 x).f0)).setCell ⟨g1, 1, none⟩ (.int .i64 (rd_T46 l0_2 x).f1))) ?hg ?ho ?hn ?hr ?_; (case ho => rfl); (case hg => rfl); (case hn => rfl); (case hr => first | (go_simp; done) | (go_simp; rfl)); intro w6 hw; replace B0 := a_ (show w6.heap[g0]? = some (.cells #[.slice A0_0 l0_0.length c0_0, .int .i64 a0_1, .slice (some ad) l0_2.length c0_2] 25 (0, 0)) by rw [hw]; exact bF_ (bF_ B0.out N0.out) N0.out); replace HM := a_ (show Kd.R (Kd.int .i64) 3 w6 w.heap.size (fun _ => True) v0 ms by rw [hw]; exact Kd.R_mono (rF_ (rF_ (Kd.R_types HM.out B1.out (by decide)))) (fun _ _ => trivial)); replace B1 := a_ (show w6.heap[g1]? = some (.cells #[.int .i64 (rd_T46 l0_2 x).f0, .int .i64 (rd_T46 l0_2 x).f1] 46 (0, 0)) by rw [hw]; exact bP_ (bP_ (cs' := #[.int .i64 (rd_T46 l0_2 x).f0, .int .i64 0]) B1.out)); replace HB := a_ (show Below w.heap.size w w6 by rw [hw]; exact below_set (below_set HB.out E0.out) E0.out); clear hw d0_ d1_ d2_ d3_; obtain ⟨d0_, d1_, d2_, d3_⟩ := bx2_ B1.out)
      | ((with_reducible refine gate_dst (N := 6) rfl ?_); refine boxE_ 6 #[.int .i64 0, .int .i64 0] 48 ?_; intro g2 hg w7 hbox hb; have E1 := a_ (gE_ hg : w.heap.size ≤ g2); have N1 := a_ (bL_ B0.out hg : g0 ≠ g2); have N2 := a_ (bL_ B1.out hg : g1 ≠ g2); have n0_ := a_ (Kd.R_below (hR_ HM.out) hb); have n1_ := a_ (bB_ B0.out hb); have n2_ := a_ (below_step hC_ hb); have n3_ := a_ (bB_ B1.out hb); have B2 := a_ hbox; clear d0_ d1_ d2_ d3_ HM B0 HB B1 hg hbox hb; have HM := n0_; have B0 := n1_; have HB := n2_; have B1 := n3_; clear n0_ n1_ n2_ n3_; obtain ⟨d0_, d1_, d2_, d3_⟩ := bx2_ B2.out)
      | ((with_reducible refine gate_store (t := 48) (p := 6) rfl ?_); refine store_event (t := 48) (p := 6) (v := ?vo6) (w1 := ((w7.setCell ⟨g2, 0, none⟩ (.int .i64 0)).setCell ⟨g2, 1, none⟩ (.int .i64 (rd_T46 l0_2 x).f0))) ?hg ?ho ?hn ?hr ?_; (case ho => rfl); (case hg => rfl); (case hn => rfl); (case hr => first | (go_simp; done) | (go_simp; rfl)); intro w8 hw; replace B0 := a_ (show w8.heap[g0]? = some (.cells #[.slice A0_0 l0_0.length c0_0, .int .i64 a0_1, .slice (some ad) l0_2.length c0_2] 25 (0, 0)) by rw [hw]; exact bF_ (bF_ B0.out N1.out) N1.out); replace HM := a_ (show Kd.R (Kd.int .i64) 3 w8 w.heap.size (fun _ => True) v0 ms by rw [hw]; exact Kd.R_mono (rF_ (rF_ (Kd.R_types HM.out B2.out (by decide)))) (fun _ _ => trivial)); replace B2 := a_ (show w8.heap[g2]? = some (.cells #[.int .i64 0, .int .i64 (rd_T46 l0_2 x).f0] 48 (0, 0)) by rw [hw]; exact bP_ (bP_ (cs' := #[.int .i64 0, .int .i64 0]) B2.out)); replace HB := a_ (show Below w.heap.size w w8 by rw [hw]; exact below_set (below_set HB.out E1.out) E1.out); replace B1 := a_ (show w8.heap[g1]? = some (.cells #[.int .i64 (rd_T46 l0_2 x).f0, .int .i64 (rd_T46 l0_2 x).f1] 46 (0, 0)) by rw [hw]; exact bF_ (bF_ B1.out N2.out) N2.out); clear hw d0_ d1_ d2_ d3_; obtain ⟨g0_, g1_, g2_, g3_, g4_, g5_⟩ := bx3_ B0.out))
     clear g0_ g1_ g2_ g3_ g4_ g5_
     replace B0 := a_ (blk_drew B0.out)
     replace B1 := a_ (blk_drew B1.out)
     replace B2 := a_ (blk_drew B2.out)
     replace HM := a_ (Kd.R_drew HM.out)
     replace HB := a_ (below_drew1 HB.out)
     obtain ⟨Am, cm, em⟩ := Kd.R_slice HM.out
     subst em
     refine start_ (n := 14) (S := fun w' => w'.cell? ⟨g0, 0, none⟩ = some (.slice A0_0 l0_0.length c0_0) ∧ w'.cell? ⟨g0, 1, none⟩ = some (.int .i64 a0_1) ∧ w'.cell? ⟨g2, 0, none⟩ = some (.int .i64 0) ∧ w'.cell? ⟨g2, 1, none⟩ = some (.int .i64 (rd_T46 l0_2 x).f0) ∧ w'.cell? ⟨g1, 1, none⟩ = some (.int .i64 (rd_T46 l0_2 x).f1)) (ds := []) #[false, false, false, false, false, false, false, false, false, false, false, false, false, false] (by kernel_rfl) rfl rfl ⟨bc0_ B0.out, bc1_ B0.out, bc0_ B2.out, bc1_ B2.out, bc1_ B1.out⟩ (fun hHeld => ?_)
     refine with_tabW session_May.tab8 session_May.bits8 (fun HT_ HW_ => ?_)
     generalize w8.drew = w9 at B0 B1 B2 HM HB hHeld ⊢
     refine pB_ 0 23 HT_.out ?_
     refine pB_ 2 25 HT_.out ?_
     refine pB_ 4 27 HT_.out ?_
     refine tB_ 1 24 HT_.out HW_.out hHeld ?_
     refine tB_ 3 26 HT_.out HW_.out hHeld ?_
     refine tB_ 6 29 HT_.out HW_.out hHeld ?_
     refine one_ (i := 5) (N := some 28) #[true, true, true, true, true, true, true, false, false, false, false, false, false, false] rfl rfl (one_of HT_.out (by kernel_rfl)) (by decide) (fun K hK => ?_)
     refine goes_ Tryz.func21 (by kernel_rfl) rfl #[.int .i64 a0_1, .slice A0_0 l0_0.length c0_0, .slice Am ms.length cm] (by rfl) rfl rfl hL_ ?_
     refine (next_Ask.calls k1 a0_1 A0_0 c0_0 l0_0 Am cm ms b1 b2 _ (Kd.C_below HR0.out HB.out) HC0.out (Kd.R_reads' HM.out).2.2 (Kd.R_reads' HM.out).2.1 HA.out (GOK.below HG.out HB.out)).mono ?_
     rintro e w0 ⟨rfl, hb⟩
     refine ⟨_, rfl, ?_⟩
     replace B0 := a_ (blk_below B0.out hb)
     replace B1 := a_ (blk_below B1.out hb)
     replace B2 := a_ (blk_below B2.out hb)
     replace HM := a_ (Kd.R_below HM.out hb)
     replace HB := a_ (below_step HB.out hb)
     clear hb
     refine hK.out _ _ ⟨bc0_ B0.out, bc1_ B0.out, bc0_ B2.out, bc1_ B2.out, bc1_ B1.out⟩ (fun hHeld => ?_)
     clear hK K
     refine norm_ (a' := ?_) ?_ ?_
     rotate_left
     · show Act.put _ (some 28) _ = _
       simp only [Act.put, List.setIfInBounds_toArray, List.set_cons_zero, List.set_cons_succ, i64_w, i32_w]
       rfl
     refine pB_ 7 30 HT_.out ?_
     refine pB_ 8 31 HT_.out ?_
     refine pB_ 9 32 HT_.out ?_
     refine tB_ 10 33 HT_.out HW_.out hHeld ?_
     refine one_ (i := 11) (N := some 34) #[true, true, true, true, true, true, true, true, true, true, true, true, false, false] rfl rfl (one_of HT_.out (by kernel_rfl)) (by decide) (fun K hK => ?_)
     refine goes_ Tryz.func22 (by kernel_rfl) rfl #[.int .i64 (rd_T46 l0_2 x).f1] (by rfl) rfl rfl hL_ ?_
     refine (next_Mark.calls (rd_T46 l0_2 x).f1 true _ HT2.out).mono ?_
     rintro e w4 ⟨rfl, ⟨nd, rfl⟩⟩
     refine ⟨_, rfl, ?_⟩
     replace B0 := a_ (blk_drewN B0.out nd)
     replace B1 := a_ (blk_drewN B1.out nd)
     replace B2 := a_ (blk_drewN B2.out nd)
     replace HM := a_ (Kd.R_drewN HM.out nd)
     replace HB := a_ (below_dn HB.out nd)
     refine hK.out _ _ ⟨bc0_ B0.out, bc1_ B0.out, bc0_ B2.out, bc1_ B2.out, bc1_ B1.out⟩ (fun hHeld => ?_)
     clear hK K
     refine norm_ (a' := ?_) ?_ ?_
     rotate_left
     · show Act.put _ (some 34) _ = _
       simp only [Act.put, List.setIfInBounds_toArray, List.set_cons_zero, List.set_cons_succ, i64_w, i32_w]
       rfl
     generalize w0.drewN nd = w12 at B0 B1 B2 HM HB hHeld ⊢
     refine pB_ 12 35 HT_.out ?_
     refine pB_ 13 36 HT_.out ?_
     refine done_ (done_of HT_.out (by kernel_rfl)) ?_
     clear HT_ HW_ hHeld
     obtain ⟨gm, cm', eo, hbg, hgl, cl, hgm⟩ := Kd.R_form HM.out (by have := X0.out; omega)
     injection eo with ea_ en_ ec_
     subst ea_
     clear en_ ec_
     obtain ⟨h2, hf34⟩ := Kd.R_celln 0 HM.out (rd_T46 l0_2 x).f0 X0.out.1 X0.out.2
     have HP := a_ (Kd.R_putg HM.out (rd_T46 l0_2 x).f0 (rd_T46 l0_2 x).f1).1
     have hne : g0 ≠ gm := blk_ne B0.out hgm (by decide)
     have HE := a_ (And.intro hbg hne)
     obtain ⟨d0_, d1_, d2_, d3_⟩ := bx2_ B1.out
     have p34_ := eq_true X0.out.1
     have q34_ := eq_true X0.out.2
     clear hbg hgl hgm hne
     go_wp2
     go_roundg k1
     case measure => have := HK1.out; omega
     case rel => exact ⟨_, _, rfl, H', ⟨by have := HK1.out; omega⟩, ⟨by have := HX.out; rw [wsuccM x HX.out (by have := Kd.C_max HR2.out; have := HCX.out; omega)]; omega⟩, ⟨HP.out⟩, ⟨bF_ B0.out HE.out.2⟩, ⟨below_set HB.out HE.out.1⟩⟩
end

end Go.Proofs.YtijamgfpgdiigaaGreatDoor.G
end
