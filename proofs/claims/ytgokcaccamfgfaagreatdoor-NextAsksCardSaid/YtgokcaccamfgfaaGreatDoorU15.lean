/- Parts of this proof, one behind the other: NextHalf, TSess, NextVals, G2, G43, G1, G44, NextWake. -/
import Derived.Test.YtgokcaccamfgfaaGreatDoorU14
import Derived.Test.YtgokcaccamfgfaaGreatDoorG0
import Derived.Test.YtgokcaccamfgfaaGreatDoorU10
import Derived.Test.YtgokcaccamfgfaaGreatDoorU11
section
/- The document's answer by halves is the program's. -/
namespace Go.Proofs.YtgokcaccamfgfaaGreatDoor.G
open Go.RowKit Go.Proofs.YtgokcaccamfgfaaGreatDoorW.PrintWords Go.Proofs.YtgokcaccamfgfaaGreatDoorW.PrintLast Go.Proofs.YtgokcaccamfgfaaGreatDoorW.PrintMore
set_option linter.unusedVariables false
set_option linter.unusedSimpArgs false
theorem rd_ne (l : List Int) (i j : Nat) (v : Int) (h : j ≠ i) : rd (l.set i v) (j : Int) = rd l (j : Int) := by
  show List.getD _ _ _ = List.getD _ _ _
  rw [Int.toNat_natCast, List.getD_eq_getElem?_getD, List.getD_eq_getElem?_getD, List.getElem?_set, if_neg (fun e => h e.symm)]
theorem sizesL_high {ns : List Nd} (hm : mayT ns = true) (c : Int → Int) (j : Nat) : ∀ (n : Nat) (o : List Int), n ≤ j → n ≤ ns.length → rd (sizesL ns c n o) (j : Int) = rd o (j : Int)
  | 0, o, _, _ => rfl
  | n + 1, o, h, hn => by
    rw [sizesL]
    have hp := mayT_pa hm n (by omega)
    have hp' : (rn ns (n : Int)).f1 = pa ns n := rfl
    rw [sizesL_high hm c j n _ (by omega) (by omega), hp']
    by_cases c0 : 0 < n
    · rw [if_pos c0, rd_ne _ _ _ _ (by omega), rd_ne _ _ _ _ (by omega)]
    · rw [if_neg c0, rd_ne _ _ _ _ (by omega)]
theorem halves_l2 {ns : List Nd} {ms : List Int} (h : marksS ns ms = true) (w : Nat) (hw : w < ns.length) (R : Int × Int) (M : Int)
    (hR : ∀ wt : List Int, wt.length = ns.length → (∀ j : Nat, w < j → j < ns.length → rd wt (j : Int) = rd (szH ns (dbt ns ms w ns.length) ms) (j : Int)) → Ev (fun k => sleuthref12_byHalves.l3 k ns ms (w : Int) (dbt ns ms w ns.length) wt M (-1) 0 ((w + 1 : Nat) : Int)) R) :
    ∀ n : Nat, w < n → n ≤ ns.length → ∀ o wt : List Int, o.length = ns.length → wt.length = ns.length → (∀ j : Nat, j < n → 0 ≤ rd o (j : Int)) → sumTo (fun j => rd o (j : Int) + oneN ns ms w j) n ≤ 512 →
      (∀ j : Nat, w < j → j < ns.length → rd wt (j : Int) = if j < n then rd o (j : Int) + oneN ns ms w j else rd o (j : Int)) → (∀ j : Nat, w < j → j < n → rdOf false (dbt ns ms w ns.length) (j : Int) = false → rd o (j : Int) = 0) →
      sizesL ns (oneB (dbt ns ms w ns.length) ms) n o = szH ns (dbt ns ms w ns.length) ms →
      Ev (fun k => sleuthref12_byHalves.l2 k ns ms (w : Int) (dbt ns ms w ns.length) wt M ((n : Int) - 1)) R := by
  obtain ⟨hm, hl, _⟩ := marksS_spec h
  have hlen := mayT_len hm
  have hdl := dbt_len ns ms w ns.length
  intro n
  induction n with
  | zero => intro hn; omega
  | succ m ih =>
    intro hwm hmN o wt ho hwt h0 hs hrel hnd hsz
    have e1 : ((m + 1 : Nat) : Int) - 1 = (m : Int) := by omega
    rw [e1]
    by_cases c : m = w
    · subst c
      have e2 : wrap64 ((m : Int) + 1) = ((m + 1 : Nat) : Int) := by rw [w64 (by omega) (by omega)]; omega
      refine Ev.step (fun k => ?_) (hR wt hwt (fun j hj hjN => ?_))
      · rw [sleuthref12_byHalves.l2, if_neg (by omega), e2]
      · rw [hrel j hj hjN, if_neg (by omega), ← hsz, sizesL_high hm _ j (m + 1) o (by omega) (by omega)]
    · have hp := mayT_pa hm m (by omega)
      obtain ⟨p, hpp⟩ : ∃ p : Nat, pa ns m = (p : Int) := ⟨(pa ns m).toNat, by omega⟩
      have hpm : p < m := by omega
      have hp' : (rn ns (m : Int)).f1 = (p : Int) := hpp
      rw [sumTo] at hs
      have hc0 : ∀ j : Nat, 0 ≤ oneN ns ms w j ∧ oneN ns ms w j ≤ 1 := fun j => oneB_range _ _ _
      have hm0 := h0 m (by omega)
      have hcm := hc0 m
      have hsum0 := sumTo_nonneg (f := fun j => rd o (j : Int) + oneN ns ms w j) (n := m) (fun j hj => by have := h0 j (by omega); have := hc0 j; omega)
      have hq1 := sumTo_mem (f := fun j => rd o (j : Int) + oneN ns ms w j) (i := p) (n := m) (fun j hj => by have := h0 j (by omega); have := hc0 j; omega) hpm
      have hp0 := h0 p (by omega)
      have hcp := hc0 p
      have hone : oneB (dbt ns ms w ns.length) ms (m : Int) = oneN ns ms w m := rfl
      have hv : wrap64 (rd o (m : Int) + oneN ns ms w m) = rd o (m : Int) + oneN ns ms w m := w64 (by omega) (by omega)
      obtain ⟨v, hvv⟩ : ∃ v, rd o (m : Int) + oneN ns ms w m = v := ⟨_, rfl⟩
      have hv0 : 0 ≤ v := by omega
      have g1m : rd (o.set m v) (m : Int) = v := by rw [rd_setN _ _ _ _ (by omega), if_pos rfl]
      have g1p : rd (o.set m v) (p : Int) = rd o (p : Int) := rd_ne _ _ _ _ (by omega)
      have hvp : wrap64 (rd o (p : Int) + v) = rd o (p : Int) + v := w64 (by omega) (by omega)
      have g2 : ∀ j : Nat, rd ((o.set m v).set p (rd o (p : Int) + v)) (j : Int) = if j = p then rd o (p : Int) + v else if j = m then v else rd o (j : Int) := by
        intro j
        rw [rd_setN _ _ _ _ (by rw [List.length_set]; omega)]
        by_cases c1 : j = p
        · rw [if_pos c1, if_pos c1]
        · rw [if_neg c1, if_neg c1, rd_setN _ _ _ _ (by omega)]
      have hnext : sizesL ns (oneB (dbt ns ms w ns.length) ms) m ((o.set m v).set p (rd o (p : Int) + v)) = szH ns (dbt ns ms w ns.length) ms := by
        rw [sizesL] at hsz
        rw [hone, hv, hvv, if_pos (by omega), hp', Int.toNat_natCast, g1m, g1p, hvp] at hsz
        exact hsz
      have hw2 : wrap64 ((m : Int) - 1) = (m : Int) - 1 := w64 (by omega) (by omega)
      have hwm1 : rd wt (m : Int) = v := by rw [hrel m (by omega) (by omega), if_pos (by omega), hvv]
      have hs2 : sumTo (fun j => rd ((o.set m v).set p (rd o (p : Int) + v)) (j : Int) + oneN ns ms w j) m = sumTo (fun j => rd o (j : Int) + oneN ns ms w j) m + v :=
        sumTo_one hpm (fun j hj => by
          rw [g2]
          by_cases c1 : j = p
          · rw [if_pos c1, if_pos c1, c1]; omega
          · rw [if_neg c1, if_neg c1, if_neg (by omega)])
      have hn2 : ∀ j : Nat, j < m → 0 ≤ rd ((o.set m v).set p (rd o (p : Int) + v)) (j : Int) := fun j hj => by
        rw [g2]
        have := h0 j (by omega)
        split
        · omega
        · rw [if_neg (by omega)]; exact this
      have hz : rdOf false (dbt ns ms w ns.length) (m : Int) = false → v = 0 := fun hd => by
        have h1 := hnd m (by omega) (by omega) hd
        have h2 : oneN ns ms w m = 0 := by
          unfold oneN oneB openB
          rw [hd, Bool.false_and, if_neg Bool.false_ne_true]
        omega
      have hd2 : ∀ j : Nat, w < j → j < m → rdOf false (dbt ns ms w ns.length) (j : Int) = false → rd ((o.set m v).set p (rd o (p : Int) + v)) (j : Int) = 0 := fun j hj hjm hd => by
        rw [g2]
        by_cases c1 : j = p
        · rw [if_pos c1]
          subst c1
          have h1 := hnd j hj (by omega) hd
          have h2 : rdOf false (dbt ns ms w ns.length) (m : Int) = false := by
            cases hq : rdOf false (dbt ns ms w ns.length) (m : Int) with
            | false => rfl
            | true =>
              obtain ⟨_, _, _, q4⟩ := dbt_spec hm ms w ns.length (Nat.le_refl _) m hq
              rw [hpp] at q4
              rcases q4 with q4 | q4
              · omega
              · rw [hd] at q4; exact absurd q4.2 Bool.false_ne_true
          rw [h1, hz h2]; rfl
        · rw [if_neg c1, if_neg (by omega)]
          exact hnd j hj (by omega) hd
      by_cases cd : rdOf false (dbt ns ms w ns.length) (m : Int) = true ∧ (p : Int) > (w : Int)
      · have hwp1 : rd wt (p : Int) = rd o (p : Int) + oneN ns ms w p := by rw [hrel p (by omega) (by omega), if_pos (by omega)]
        have hw3 : wrap64 (rd o (p : Int) + oneN ns ms w p + v) = rd o (p : Int) + oneN ns ms w p + v := w64 (by omega) (by omega)
        refine Ev.step (f := fun k => sleuthref12_byHalves.l2 k ns ms (w : Int) (dbt ns ms w ns.length) (wt.set p (rd o (p : Int) + oneN ns ms w p + v)) M ((m : Int) - 1)) (fun k => ?_)
          (ih (by omega) (by omega) _ _ (by rw [List.length_set, List.length_set]; exact ho) (by rw [List.length_set]; exact hwt) hn2 (by rw [hs2]; omega) (fun j hj hjN => ?_) hd2 hnext)
        · have hp2 : (rd_T64 ns (m : Int)).f1 = (p : Int) := hpp
          rw [sleuthref12_byHalves.l2, if_pos (by omega), if_pos (by omega), if_pos (by omega), if_pos cd.1, if_pos (by omega), hp2, if_pos cd.2, if_pos (by omega), if_pos (by omega), if_pos (by omega), hwp1, hwm1, hw3, hw2, Int.toNat_natCast]
        · rw [rd_setN _ _ _ _ (by omega), g2]
          by_cases c1 : j = p
          · rw [if_pos c1, if_pos (by omega), if_pos c1, c1]; omega
          · rw [if_neg c1, if_neg c1, hrel j hj hjN]
            by_cases c2 : j = m
            · rw [if_pos (by omega), if_neg (by omega), if_pos c2, c2, hvv]
            · rw [if_neg c2]
              by_cases c3 : j < m
              · rw [if_pos (by omega), if_pos c3]
              · rw [if_neg (by omega), if_neg c3]
      · refine Ev.step (f := fun k => sleuthref12_byHalves.l2 k ns ms (w : Int) (dbt ns ms w ns.length) wt M ((m : Int) - 1)) (fun k => ?_)
          (ih (by omega) (by omega) _ _ (by rw [List.length_set, List.length_set]; exact ho) hwt hn2 (by rw [hs2]; omega) (fun j hj hjN => ?_) hd2 hnext)
        · have hp2 : (rd_T64 ns (m : Int)).f1 = (p : Int) := hpp
          rw [sleuthref12_byHalves.l2, if_pos (by omega), if_pos (by omega), if_pos (by omega)]
          cases hq : rdOf false (dbt ns ms w ns.length) (m : Int) with
          | false => rw [if_neg Bool.false_ne_true, hw2]
          | true => rw [if_pos rfl, if_pos (by omega), hp2, if_neg (fun hh => cd ⟨hq, hh⟩), hw2]
        · rw [g2, hrel j hj hjN]
          by_cases c1 : j = p
          · have h2 : rdOf false (dbt ns ms w ns.length) (m : Int) = false := by
              cases hq : rdOf false (dbt ns ms w ns.length) (m : Int) with
              | false => rfl
              | true => exact absurd ⟨hq, by omega⟩ cd
            rw [if_pos (by omega), if_pos (by omega), if_pos c1, hz h2, c1]; omega
          · rw [if_neg c1]
            by_cases c2 : j = m
            · rw [if_pos (by omega), if_neg (by omega), if_pos c2, c2, hvv]
            · rw [if_neg c2]
              by_cases c3 : j < m
              · rw [if_pos (by omega), if_pos c3]
              · rw [if_neg (by omega), if_neg c3]
theorem bestH_low {ns : List Nd} (hm : mayT ns = true) (ms sz : List Int) (M : Int) (w : Nat) : ∀ n : Nat, n ≤ w + 1 → bestH sz (dbt ns ms w ns.length) ms M n = -1
  | 0, _ => rfl
  | n + 1, h => by
    rw [bestH, if_neg (fun hh => by rw [oneB_low hm ms w n (by omega)] at hh; exact absurd hh.1 Bool.false_ne_true)]
    exact bestH_low hm ms sz M w n (by omega)
def offO (sz : List Int) (b M : Int) : Int := if b < 0 then 0 else offW (rd sz b) M
theorem halves_l3 {ns : List Nd} {ms : List Int} (h : marksS ns ms = true) (w : Nat) (hw : w < ns.length) (sz wt : List Int) (M : Int) (hwl : wt.length = ns.length) (hwt : ∀ j : Nat, w < j → j < ns.length → rd wt (j : Int) = rd sz (j : Int)) :
    ∀ n i : Nat, w < i → i + n = ns.length → Ev (fun k => sleuthref12_byHalves.l3 k ns ms (w : Int) (dbt ns ms w ns.length) wt M (bestH sz (dbt ns ms w ns.length) ms M i) (offO sz (bestH sz (dbt ns ms w ns.length) ms M i) M) (i : Int))
      (if bestH sz (dbt ns ms w ns.length) ms M ns.length < 0 then bugS ns ms (w : Int) else (0, bestH sz (dbt ns ms w ns.length) ms M ns.length)) := by
  obtain ⟨hm, hl, _⟩ := marksS_spec h
  have hlen := mayT_len hm
  have hdl := dbt_len ns ms w ns.length
  intro n
  induction n with
  | zero =>
    intro i hwi hi
    obtain rfl : i = ns.length := by omega
    generalize bestH sz (dbt ns ms w ns.length) ms M ns.length = b
    by_cases cb : b < 0
    · rw [if_pos cb]
      refine Ev.step (f := fun k => (sleuthref12_verdict.f k ns ms (w : Int)).bind fun bt392 => (some (bt392.1, bt392.2))) (fun k => ?_) (Ev.bind (verdict_ev h (w : Int) (by omega)) (Ev.now _))
      rw [sleuthref12_byHalves.l3, if_neg (by omega), if_neg (by omega)]
    · rw [if_neg cb]
      refine Ev.step (f := fun k => some (0, b)) (fun k => ?_) (Ev.now _)
      rw [sleuthref12_byHalves.l3, if_neg (by omega), if_pos (by omega)]
  | succ n ih =>
    intro i hwi hi
    have hw1 : wrap64 ((i : Int) + 1) = ((i + 1 : Nat) : Int) := by rw [w64 (by omega) (by omega)]; omega
    have ih' := ih (i + 1) (by omega) (by omega)
    have hwi2 := hwt i hwi (by omega)
    have hb : bestH sz (dbt ns ms w ns.length) ms M (i + 1) = if openB (dbt ns ms w ns.length) ms (i : Int) = true ∧ (bestH sz (dbt ns ms w ns.length) ms M i < 0 ∨ offW (rd sz (i : Int)) M < offW (rd sz (bestH sz (dbt ns ms w ns.length) ms M i)) M) then (i : Int) else bestH sz (dbt ns ms w ns.length) ms M i := rfl
    rw [hb] at ih'
    clear hb
    generalize bestH sz (dbt ns ms w ns.length) ms M i = b at ih' ⊢
    generalize (if bestH sz (dbt ns ms w ns.length) ms M ns.length < 0 then bugS ns ms (w : Int) else (0, bestH sz (dbt ns ms w ns.length) ms M ns.length)) = R at ih' ⊢
    by_cases co : openB (dbt ns ms w ns.length) ms (i : Int) = true
    · have co' := co
      unfold openB at co'
      rw [Bool.and_eq_true, beq_iff_eq] at co'
      have hz : (rd ms (i : Int) != 0) = false := by rw [co'.2]; rfl
      refine Ev.step (f := fun k => sleuthref12_byHalves.j4 k ns ms (w : Int) (dbt ns ms w ns.length) wt M b (offO sz b M) (i : Int) false) (fun k => ?_) ?_
      · rw [sleuthref12_byHalves.l3, if_pos (by omega), if_pos (by omega), if_pos (by omega), if_pos co'.1, if_pos (by omega), hz]
      · refine Ev.step (fun k => ?_) ih'
        have hoff : mx (wrap64 ((wrap64 (2 * (rd wt (i : Int)))) - M)) (wrap64 (M - (wrap64 (2 * (rd wt (i : Int)))))) = offW (rd sz (i : Int)) M := by rw [hwi2]; rfl
        rw [sleuthref12_byHalves.j4, if_neg Bool.false_ne_true, if_pos (by omega), if_pos (by omega), hoff, hw1]
        by_cases cb : b < 0
        · rw [if_pos cb, if_pos ⟨co, .inl cb⟩]
          unfold offO
          rw [if_neg (show ¬ (i : Int) < 0 by omega)]
        · rw [if_neg cb]
          have ho : offO sz b M = offW (rd sz b) M := by unfold offO; rw [if_neg cb]
          rw [ho]
          by_cases cl : offW (rd sz (i : Int)) M < offW (rd sz b) M
          · rw [if_pos cl, if_pos ⟨co, .inr cl⟩]
            unfold offO
            rw [if_neg (show ¬ (i : Int) < 0 by omega)]
          · rw [if_neg cl, if_neg (fun hh => hh.2.elim cb cl), ho]
    · rw [if_neg (fun hh => co hh.1)] at ih'
      have co' : ¬ (rdOf false (dbt ns ms w ns.length) (i : Int) = true ∧ rd ms (i : Int) = 0) := fun hh => co (by unfold openB; rw [hh.1, hh.2]; rfl)
      refine Ev.step (f := fun k => sleuthref12_byHalves.j4 k ns ms (w : Int) (dbt ns ms w ns.length) wt M b (offO sz b M) (i : Int) true) (fun k => ?_) (Ev.step (fun k => ?_) ih')
      · rw [sleuthref12_byHalves.l3, if_pos (by omega), if_pos (by omega), if_pos (by omega)]
        cases hq : rdOf false (dbt ns ms w ns.length) (i : Int) with
        | false => rw [if_neg Bool.false_ne_true]
        | true => rw [if_pos rfl, if_pos (by omega), show (rd ms (i : Int) != 0) = true from bne_iff_ne.2 (fun hh => co' ⟨hq, hh⟩)]
      · rw [sleuthref12_byHalves.j4, if_pos rfl, hw1]
theorem halves_l0 {ns : List Nd} {ms : List Int} (h : marksS ns ms = true) (R : Int × Int)
    (hR : Ev (fun k => sleuthref12_byHalves.l1 k ns ms (lastM ms ms.length) (List.replicate ns.length false) (List.replicate ns.length 0) 0 (wrap64 (lastM ms ms.length + 1))) R) :
    ∀ n i : Nat, i + n = ns.length → Ev (fun k => sleuthref12_byHalves.l0 k ns ms (lastM ms i) (i : Int)) R := by
  obtain ⟨hm, hl, _⟩ := marksS_spec h
  have hlen := mayT_len hm
  intro n
  induction n with
  | zero =>
    intro i hi
    obtain rfl : i = ms.length := by omega
    refine Ev.step (fun k => ?_) hR
    rw [sleuthref12_byHalves.l0, if_neg (by omega), if_pos (by omega), Int.toNat_natCast, if_pos (by omega), if_pos (by omega)]
  | succ n ih =>
    intro i hi
    have hw1 : wrap64 ((i : Int) + 1) = ((i + 1 : Nat) : Int) := by rw [w64 (by omega) (by omega)]; omega
    refine Ev.step (fun k => ?_) (ih (i + 1) (by omega))
    rw [sleuthref12_byHalves.l0, if_pos (by omega), if_pos (by omega), if_pos (by omega), hw1, lastM]
    by_cases c : rd ms (i : Int) = 2
    · rw [if_pos c, if_pos c]
    · rw [if_neg c, if_neg c]
theorem byHalves_ev {ns : List Nd} {ms : List Int} (h : marksS ns ms = true) : Ev (fun k => sleuthref12_byHalves.f k ns ms) (askH ns ms) := by
  obtain ⟨hm, hl, _⟩ := marksS_spec h
  have hlen := mayT_len hm
  unfold sleuthref12_byHalves.f
  have g : (0 : Int) < (ms.length : Int) := by omega
  simp only [if_pos g]
  by_cases c2 : rd ms 0 = 2
  · simp only [if_pos c2]
    have hr := lastM_range ms ms.length (by omega)
    obtain ⟨w, hwe⟩ : ∃ w : Nat, lastM ms ms.length = (w : Int) := ⟨(lastM ms ms.length).toNat, by omega⟩
    have hw : w < ns.length := by omega
    have e : askH ns ms = if bestH (szH ns (dbt ns ms w ns.length) ms) (dbt ns ms w ns.length) ms (sumTo (oneN ns ms w) ns.length) ns.length < 0 then bugS ns ms (w : Int) else (0, bestH (szH ns (dbt ns ms w ns.length) ms) (dbt ns ms w ns.length) ms (sumTo (oneN ns ms w) ns.length) ns.length) := by
      unfold askH
      rw [if_pos c2, hwe, Int.toNat_natCast, half_total h w hw]
    rw [e]
    refine halves_l0 h _ ?_ ns.length 0 (by omega)
    have e2 : wrap64 ((w : Int) + 1) = ((w + 1 : Nat) : Int) := by rw [w64 (by omega) (by omega)]; omega
    rw [hwe, e2]
    have hz : sumTo (oneN ns ms w) (w + 1) = 0 := sumTo_zero (fun j hj => oneN_low hm ms w j (by omega))
    have h2 : Ev (fun k => sleuthref12_byHalves.l2 k ns ms (w : Int) (dbt ns ms w ns.length) (wtL ns ms w ns.length) (sumTo (oneN ns ms w) ns.length) ((ns.length : Int) - 1))
        (if bestH (szH ns (dbt ns ms w ns.length) ms) (dbt ns ms w ns.length) ms (sumTo (oneN ns ms w) ns.length) ns.length < 0 then bugS ns ms (w : Int) else (0, bestH (szH ns (dbt ns ms w ns.length) ms) (dbt ns ms w ns.length) ms (sumTo (oneN ns ms w) ns.length) ns.length)) := by
      have hs := oneN_sum ns ms w ns.length
      refine halves_l2 h w hw _ _ (fun wt hwl hwt => ?_) ns.length hw (Nat.le_refl _) (List.replicate ns.length 0) (wtL ns ms w ns.length) List.length_replicate (wtL_len ns ms w ns.length) (fun j hj => by rw [rd_rep]; exact Int.le_refl _) ?_ (fun j hj hjN => ?_) (fun j _ _ _ => rd_rep _ _) rfl
      · have h3 := halves_l3 h w hw (szH ns (dbt ns ms w ns.length) ms) wt (sumTo (oneN ns ms w) ns.length) hwl hwt (ns.length - (w + 1)) (w + 1) (by omega) (by omega)
        rw [bestH_low hm ms _ _ w (w + 1) (Nat.le_refl _)] at h3
        exact h3
      · have e3 : sumTo (fun j => rd (List.replicate ns.length 0) (j : Int) + oneN ns ms w j) ns.length = sumTo (oneN ns ms w) ns.length := sumTo_congr (fun j hj => by rw [rd_rep, Int.zero_add])
        rw [e3]; omega
      · rw [wtL_at ns ms w j ns.length (Nat.le_refl _), if_pos hjN, if_pos hjN, rd_rep, Int.zero_add]
    have h1 := halves_l1 h w hw _ h2 (ns.length - (w + 1)) (w + 1) (by omega) (by omega)
    rw [dbt_low ns ms w (w + 1) (Nat.le_refl _), wtL_low hm ms w (w + 1) (Nat.le_refl _), hz] at h1
    exact h1
  · simp only [if_neg c2, rooted_eq h c2, Option.bind_some]
    have e : askH ns ms = askT ns ms := by unfold askH; rw [if_neg c2]
    rw [e]
    exact Ev.now _
end Go.Proofs.YtgokcaccamfgfaaGreatDoor.G
end
section
/- A session by its fields, as the cards open it. -/
namespace Go.Proofs.YtgokcaccamfgfaaGreatDoor.G
open Go.RowKit Go.Proofs.YtgokcaccamfgfaaGreatDoorW.PrintWords Go.Proofs.YtgokcaccamfgfaaGreatDoorW.PrintLast Go.Proofs.YtgokcaccamfgfaaGreatDoorW.PrintMore
structure S25 where
  f0 : List S64
  f1 : Int
  f2 : List S46
def k25 : Kd S25 := Kd.iso (Kd.pair (Kd.slice 64 k64) (Kd.pair (Kd.int .i64) (Kd.slice 46 k46))) (fun x : S25 => (x.f0, x.f1, x.f2))
theorem k25_open {w : World} {x : S25} {cs : List Value} (h : k25.K w x cs) : ∃ A0 c0 A2 c2, cs = [.slice A0 x.f0.length c0, .int .i64 x.f1, .slice A2 x.f2.length c2] ∧ x.f0.length ≤ c0 ∧ k64.C w A0 x.f0.length x.f0 ∧ x.f2.length ≤ c2 ∧ k46.C w A2 x.f2.length x.f2 := by
  obtain ⟨_, _, rfl, ⟨A0, c0, rfl, l0, g0⟩, ⟨_, _, rfl, rfl, ⟨A2, c2, rfl, l2, g2⟩⟩⟩ := h
  exact ⟨A0, c0, A2, c2, rfl, l0, g0, l2, g2⟩
end Go.Proofs.YtgokcaccamfgfaaGreatDoor.G
end
section
/- What package next answers, and the document's answer, as plain functions. -/
namespace Go.Proofs.YtgokcaccamfgfaaGreatDoor.G
open Go.RowKit Go.Proofs.YtgokcaccamfgfaaGreatDoorW.PrintWords Go.Proofs.YtgokcaccamfgfaaGreatDoorW.PrintLast Go.Proofs.YtgokcaccamfgfaaGreatDoorW.PrintMore
set_option linter.unusedVariables false
set_option linter.unusedSimpArgs false
abbrev An := S46
abbrev ra (zs : List An) (i : Int) : An := rd_T46 zs i
def fineA (l : List An) : Prop := l.length * 16 ≤ 140737488351232 ∧ ∀ x ∈ l, (Lit.int .i64 x.f0).wf = true ∧ (Lit.int .i64 x.f1).wf = true
theorem drop_ra (l : List An) (i : Nat) (h : i < l.length) : l.drop i = ra l (i : Int) :: l.drop (i + 1) := by
  rw [List.drop_eq_getElem_cons h]
  congr 1
  show _ = List.getD _ _ _
  rw [Int.toNat_natCast, List.getD_eq_getElem?_getD, List.getElem?_eq_getElem h]; rfl
def markB (x : Int) : Bool := decide (1 ≤ x) && decide (x ≤ 3)
theorem markB_spec {x : Int} (h : markB x = true) : 1 ≤ x ∧ x ≤ 3 := by
  unfold markB at h
  rw [Bool.and_eq_true, decide_eq_true_iff, decide_eq_true_iff] at h
  exact h
theorem mark_eq (x : Int) : next_Mark.f x = some (markB x) := by
  unfold next_Mark.f markB
  by_cases c : 1 ≤ x
  · rw [if_pos (show x ≥ 1 from c), decide_eq_true c, Bool.true_and]
  · rw [if_neg (show ¬ x ≥ 1 from c), decide_eq_false c, Bool.false_and]
theorem markMay_eq (x : Int) : sleuthref12_markMay.f x = some (markB x) := by
  unfold sleuthref12_markMay.f
  rw [upTo_eq]; rfl
def wayB (x : Int) : Bool := x == 0 || x == 1
theorem way_eq (x : Int) : next_Way.f x = some (wayB x) := by
  unfold next_Way.f wayB
  by_cases c : x = 0
  · rw [if_pos c, beq_iff_eq.2 c]; rfl
  · rw [if_neg c, beq_eq_false_iff_ne.2 c]; rfl
theorem wayR_eq (x : Int) : sleuthref12_upTo.f x 0 1 = some (wayB x) := by
  rw [upTo_eq]
  unfold wayB
  congr 1
  rw [Bool.eq_iff_iff, Bool.and_eq_true, Bool.or_eq_true, decide_eq_true_iff, decide_eq_true_iff, beq_iff_eq, beq_iff_eq]
  omega
theorem wayB_spec {x : Int} (h : wayB x = true) : x = 0 ∨ x = 1 := by
  unfold wayB at h
  rw [Bool.or_eq_true, beq_iff_eq, beq_iff_eq] at h
  exact h
/-- the marks that answers leave -/
def goA : List An → List Int → Option (List Int)
  | [], m => some m
  | a :: zs, m => if (decide (0 ≤ a.f0) && decide (a.f0 < (m.length : Int))) && markB a.f1 then goA zs (m.set a.f0.toNat a.f1) else none
def resA (o : Option (List Int)) : List Int × Int := match o with | some m => (m, 0) | none => ([], 2000)
theorem marks_l0 (zs : List An) (hl : zs.length ≤ 9223372036854775806) : ∀ (n i : Nat) (m : List Int), i + n = zs.length → Ev (fun k => next_Marks.l0 k m zs (zs.length : Int) (i : Int)) (resA (goA (zs.drop i) m)) := by
  intro n
  induction n with
  | zero =>
    intro i m hi
    rw [List.drop_eq_nil_of_le (by omega)]
    refine Ev.step (f := fun _ => some (m, 0)) (fun k => ?_) (Ev.now _)
    rw [next_Marks.l0, if_neg (by omega)]
  | succ n ih =>
    intro i m hi
    have hw : wrap64 ((i : Int) + 1) = ((i + 1 : Nat) : Int) := by rw [w64 (by omega) (by omega)]; omega
    rw [drop_ra zs i (by omega), goA]
    obtain ⟨a, ha⟩ : ∃ a, ra zs (i : Int) = a := ⟨_, rfl⟩
    have ha' : rd_T46 zs (i : Int) = a := ha
    rw [ha]
    by_cases c0 : 0 ≤ a.f0
    · by_cases c1 : a.f0 < (m.length : Int)
      · rw [decide_eq_true c0, decide_eq_true c1, Bool.and_self, Bool.true_and]
        by_cases c2 : markB a.f1 = true
        · rw [if_pos c2]
          refine Ev.step (f := fun k => next_Marks.l0 k (m.set a.f0.toNat a.f1) zs (zs.length : Int) ((i + 1 : Nat) : Int)) (fun k => ?_) (ih (i + 1) _ (by omega))
          rw [next_Marks.l0, if_pos (by omega), if_pos (by omega), if_pos (by omega), ha', if_neg (by omega), if_neg (by omega), mark_eq, Option.bind_some, if_pos c2, if_pos c0, if_pos c1, hw]
        · rw [if_neg c2]
          refine Ev.step (f := fun _ => some ([], 2000)) (fun k => ?_) (Ev.now _)
          rw [next_Marks.l0, if_pos (by omega), if_pos (by omega), if_pos (by omega), ha', if_neg (by omega), if_neg (by omega), mark_eq, Option.bind_some, if_neg c2]
      · rw [decide_eq_false c1, Bool.and_false, Bool.false_and, if_neg Bool.false_ne_true]
        refine Ev.step (f := fun _ => some ([], 2000)) (fun k => ?_) (Ev.now _)
        rw [next_Marks.l0, if_pos (by omega), if_pos (by omega), if_pos (by omega), ha', if_neg (by omega), if_pos (by omega)]
    · rw [decide_eq_false c0, Bool.false_and, Bool.false_and, if_neg Bool.false_ne_true]
      refine Ev.step (f := fun _ => some ([], 2000)) (fun k => ?_) (Ev.now _)
      rw [next_Marks.l0, if_pos (by omega), if_pos (by omega), if_pos (by omega), ha', if_pos (by omega)]
theorem refMarksA_l0 (ns : List Nd) (w : Int) (zs : List An) (hn : ns.length ≤ 9223372036854775806) (hl : zs.length ≤ 9223372036854775806) : ∀ (n i : Nat) (m : List Int), m.length = ns.length → i + n = zs.length → Ev (fun k => sleuthref12_Marks.l0 k m (i : Int) ns w zs) (resA (goA (zs.drop i) m)) := by
  intro n
  induction n with
  | zero =>
    intro i m hm hi
    rw [List.drop_eq_nil_of_le (by omega)]
    refine Ev.step (f := fun _ => some (m, 0)) (fun k => ?_) (Ev.now _)
    rw [sleuthref12_Marks.l0, if_neg (by omega)]
  | succ n ih =>
    intro i m hm hi
    have hw : wrap64 ((i : Int) + 1) = ((i + 1 : Nat) : Int) := by rw [w64 (by omega) (by omega)]; omega
    have hw1 : wrap64 ((ns.length : Int) - 1) = (ns.length : Int) - 1 := w64 (by omega) (by omega)
    rw [drop_ra zs i (by omega), goA]
    obtain ⟨a, ha⟩ : ∃ a, ra zs (i : Int) = a := ⟨_, rfl⟩
    have ha' : rd_T46 zs (i : Int) = a := ha
    rw [ha]
    have e : decide (a.f0 ≤ (ns.length : Int) - 1) = decide (a.f0 < (m.length : Int)) := decide_eq_decide.2 (by omega)
    by_cases c : (decide (0 ≤ a.f0) && decide (a.f0 < (m.length : Int))) = true
    · rw [c, Bool.true_and]
      have c' := c
      rw [Bool.and_eq_true, decide_eq_true_iff, decide_eq_true_iff] at c'
      by_cases c2 : markB a.f1 = true
      · rw [if_pos c2]
        refine Ev.step (f := fun k => sleuthref12_Marks.l0 k (m.set a.f0.toNat a.f1) ((i + 1 : Nat) : Int) ns w zs) (fun k => ?_) (ih (i + 1) _ (by rw [List.length_set]; exact hm) (by omega))
        rw [sleuthref12_Marks.l0, if_pos (by omega), if_pos (by omega), ha', hw1, upTo_eq, e, Option.bind_some, if_pos c, markMay_eq, Option.bind_some, if_pos c2, if_pos c'.1, if_pos c'.2, hw]
      · rw [if_neg c2]
        refine Ev.step (f := fun _ => some ([], 2000)) (fun k => ?_) (Ev.now _)
        rw [sleuthref12_Marks.l0, if_pos (by omega), if_pos (by omega), ha', hw1, upTo_eq, e, Option.bind_some, if_pos c, markMay_eq, Option.bind_some, if_neg c2]
    · rw [Bool.not_eq_true] at c
      rw [c, Bool.false_and, if_neg Bool.false_ne_true]
      refine Ev.step (f := fun _ => some ([], 2000)) (fun k => ?_) (Ev.now _)
      rw [sleuthref12_Marks.l0, if_pos (by omega), if_pos (by omega), ha', hw1, upTo_eq, e, Option.bind_some, c, if_neg Bool.false_ne_true]
def marksF (ns : List Nd) (zs : List An) : List Int × Int := if (mayT ns && decide (zs.length ≤ 512)) = true then resA (goA zs (List.replicate ns.length 0)) else ([], 2000)
theorem marks_ev (ns : List Nd) (w : Int) (zs : List An) : Ev (fun k => next_Marks.f k ns w zs) (marksF ns zs) := by
  unfold next_Marks.f marksF
  refine Ev.bind (trailMay_ev ns) ?_
  cases hm : mayT ns with
  | false =>
    simp only [if_neg Bool.false_ne_true, Bool.false_and]
    refine Ev.step (f := fun _ => some ([], 2000)) (fun k => ?_) (Ev.now _)
    rw [next_Marks.j0, if_pos rfl]
  | true =>
    have hlen := mayT_len hm
    simp only [if_pos, Bool.true_and]
    by_cases c : zs.length ≤ 512
    · rw [decide_eq_false (show ¬ (zs.length : Int) > 512 by omega), if_pos (decide_eq_true c)]
      have h := marks_l0 zs (by omega) zs.length 0 (List.replicate ns.length 0) (by omega)
      refine Ev.step (fun k => ?_) h
      rw [next_Marks.j0, if_neg Bool.false_ne_true, if_pos (by omega), Int.toNat_natCast, if_pos (by omega)]; rfl
    · rw [decide_eq_true (show (zs.length : Int) > 512 by omega), if_neg (by rw [decide_eq_true_iff]; exact c)]
      refine Ev.step (f := fun _ => some ([], 2000)) (fun k => ?_) (Ev.now _)
      rw [next_Marks.j0, if_pos rfl]
theorem refMarksA_ev (ns : List Nd) (hok : okN ns) (w : Int) (zs : List An) : Ev (fun k => sleuthref12_Marks.f k ns w zs) (marksF ns zs) := by
  unfold sleuthref12_Marks.f marksF
  refine Ev.bind (refTrail_ev ns hok) ?_
  cases hm : mayT ns with
  | false =>
    simp only [if_neg Bool.false_ne_true, Bool.false_and]
    refine Ev.step (f := fun _ => some ([], 2000)) (fun k => ?_) (Ev.now _)
    rw [sleuthref12_Marks.j0, if_pos rfl]
  | true =>
    have hlen := mayT_len hm
    simp only [if_pos, Bool.true_and]
    by_cases c : zs.length ≤ 512
    · rw [decide_eq_false (show ¬ (zs.length : Int) > 512 by omega), if_pos (decide_eq_true c)]
      have h := refMarksA_l0 ns w zs (by omega) (by omega) zs.length 0 (List.replicate ns.length 0) List.length_replicate (by omega)
      refine Ev.step (fun k => ?_) h
      rw [sleuthref12_Marks.j0, if_neg Bool.false_ne_true, if_pos (by omega), Int.toNat_natCast, if_pos (by omega)]; rfl
    · rw [decide_eq_true (show (zs.length : Int) > 512 by omega), if_neg (by rw [decide_eq_true_iff]; exact c)]
      refine Ev.step (f := fun _ => some ([], 2000)) (fun k => ?_) (Ev.now _)
      rw [sleuthref12_Marks.j0, if_pos rfl]
theorem goA_ok : ∀ (zs : List An) (m m' : List Int), goA zs m = some m' → m'.length = m.length ∧ ((∀ x ∈ m, oddB x = false) → ∀ x ∈ m', oddB x = false)
  | [], m, m', h => by
    obtain rfl := Option.some.inj h
    exact ⟨rfl, fun hh => hh⟩
  | a :: zs, m, m', h => by
    rw [goA] at h
    by_cases c : ((decide (0 ≤ a.f0) && decide (a.f0 < (m.length : Int))) && markB a.f1) = true
    · rw [if_pos c] at h
      rw [Bool.and_eq_true] at c
      have hb := markB_spec c.2
      obtain ⟨h1, h2⟩ := goA_ok zs _ m' h
      rw [List.length_set] at h1
      refine ⟨h1, fun hh => h2 fun x hx => ?_⟩
      rcases List.mem_or_eq_of_mem_set hx with hx | rfl
      · exact hh x hx
      · unfold oddB
        rw [decide_eq_false (by omega), decide_eq_false (by omega)]; rfl
    · rw [if_neg c] at h; cases h
theorem marksF_ok {ns : List Nd} {zs : List An} (h : (marksF ns zs).2 = 0) : marksS ns (marksF ns zs).1 = true ∧ zs.length ≤ 512 ∧ goA zs (List.replicate ns.length 0) = some (marksF ns zs).1 := by
  unfold marksF at h ⊢
  by_cases c : (mayT ns && decide (zs.length ≤ 512)) = true
  · rw [if_pos c] at h ⊢
    rw [Bool.and_eq_true, decide_eq_true_iff] at c
    cases hg : goA zs (List.replicate ns.length 0) with
    | none => rw [hg] at h; exact absurd h (by decide)
    | some m =>
      obtain ⟨h1, h2⟩ := goA_ok zs _ m hg
      rw [List.length_replicate] at h1
      refine ⟨?_, c.2, rfl⟩
      show marksS ns m = true
      unfold marksS
      rw [c.1, h1, decide_eq_true rfl, Bool.true_and, Bool.true_and, Bool.not_eq_true']
      rw [List.any_eq_false]
      intro x hx
      rw [h2 (fun y hy => by rw [List.eq_of_mem_replicate hy]; rfl) x hx]
      exact Bool.false_ne_true
  · rw [if_neg c] at h; exact absurd h (by decide)
theorem marksF_len (ns : List Nd) (zs : List An) : (marksF ns zs).1.length ≤ 512 := by
  by_cases h : (marksF ns zs).2 = 0
  · obtain ⟨h1, h2, h3⟩ := marksF_ok h
    obtain ⟨hm, hl, _⟩ := marksS_spec h1
    have := mayT_len hm
    omega
  · unfold marksF at h ⊢
    by_cases c : (mayT ns && decide (zs.length ≤ 512)) = true
    · rw [if_pos c] at h ⊢
      cases hg : goA zs (List.replicate ns.length 0) with
      | none => exact Nat.zero_le _
      | some m => rw [hg] at h; exact absurd rfl h
    · rw [if_neg c]; exact Nat.zero_le _
/-! what is asked -/
def askW (w : Int) (ns : List Nd) (ms : List Int) : Int × Int := if w = 1 then askH ns ms else askT ns ms
theorem nextAsk_ev {ns : List Nd} {ms : List Int} (h : marksS ns ms = true) (w : Int) : Ev (fun k => next_Ask.f k w ns ms) (askW w ns ms) := by
  unfold next_Ask.f askW
  by_cases c : w = 1
  · simp only [if_pos c]; exact Ev.bind (askH_ev h) (Ev.now _)
  · simp only [if_neg c]; exact Ev.bind (ask_ev h) (Ev.now _)
theorem asksR_ev {ns : List Nd} {ms : List Int} (h : marksS ns ms = true) (w : Int) (hw : wayB w = true) : Ev (fun k => sleuthref12_asks.f k ns w ms) (askW w ns ms) := by
  unfold sleuthref12_asks.f askW
  rcases wayB_spec hw with rfl | rfl
  · rw [if_neg (show ¬ (0 : Int) = 1 by decide)]
    have e : (0 : Int) = 0 := rfl
    simp only [if_pos e]; exact Ev.bind (topDown_ev h) (Ev.now _)
  · rw [if_pos rfl]
    have e : ¬ (1 : Int) = 0 := by decide
    simp only [if_neg e]; exact Ev.bind (byHalves_ev h) (Ev.now _)
def stepF (ns : List Nd) (w : Int) (zs : List An) : Int × Int × Int := if (marksF ns zs).2 = 0 then (if wayB w = true then ((askW w ns (marksF ns zs).1).1, (askW w ns (marksF ns zs).1).2, 0) else (0, 0, 2000)) else (0, 0, 2000)
theorem step_ev (ns : List Nd) (w : Int) (zs : List An) : Ev (fun k => next_Step.f k ns w zs) (stepF ns w zs) := by
  unfold next_Step.f stepF
  refine Ev.bind (marks_ev ns w zs) ?_
  by_cases c : (marksF ns zs).2 = 0
  · simp only [if_pos c, way_eq, Option.bind_some]
    by_cases d : wayB w = true
    · simp only [if_pos d]; exact Ev.bind (nextAsk_ev (marksF_ok c).1 w) (Ev.now _)
    · simp only [if_neg d]; exact Ev.now _
  · simp only [if_neg c]; exact Ev.now _
theorem refStep_ev (ns : List Nd) (hok : okN ns) (w : Int) (zs : List An) : Ev (fun k => sleuthref12_Step.f k ns w zs) (stepF ns w zs) := by
  unfold sleuthref12_Step.f stepF
  refine Ev.bind (refMarksA_ev ns hok w zs) ?_
  by_cases c : (marksF ns zs).2 = 0
  · simp only [if_pos c, wayR_eq, Option.bind_some]
    by_cases d : wayB w = true
    · simp only [if_pos d]; exact Ev.bind (asksR_ev (marksF_ok c).1 w d) (Ev.now _)
    · simp only [if_neg d]; exact Ev.now _
  · simp only [if_neg c]; exact Ev.now _
theorem askT_facts {ns : List Nd} {ms : List Int} (h : marksS ns ms = true) : 0 ≤ (askT ns ms).2 ∧ (askT ns ms).2 < (ns.length : Int) ∧ ((askT ns ms).1 = 0 → rd ms (askT ns ms).2 = 0) := by
  obtain ⟨hm, hl, hx⟩ := marksS_spec h
  have hlen := mayT_len hm
  unfold askT
  by_cases c0 : rd ms 0 = 0
  · rw [if_pos c0]; exact ⟨Int.le_refl _, by show (0 : Int) < _; omega, fun _ => c0⟩
  · rw [if_neg c0]
    by_cases c1 : rd ms 0 = 1
    · rw [if_pos c1]; exact ⟨Int.le_refl _, by show (0 : Int) < _; omega, fun hh => absurd hh (by decide)⟩
    · rw [if_neg c1]
      by_cases c3 : rd ms 0 = 3
      · rw [if_pos c3]; exact ⟨Int.le_refl _, by show (0 : Int) < _; omega, fun hh => absurd hh (by decide)⟩
      · rw [if_neg c3]
        have h00 := marks_at h 0 (by omega)
        rw [show ((0 : Nat) : Int) = 0 from rfl] at h00
        have hd := downT_spec (ns := ns) (ms := ms) ns.length 0 (by omega) (by omega) (by omega) (by omega)
        generalize downT ns ms ns.length 0 = b at hd
        unfold finT
        cases hf : fstK ns ms b 0 with
        | some k =>
          have hk := fstK_spec hf
          exact ⟨by show 0 ≤ k; omega, hk.2.1, fun _ => hk.2.2.2⟩
        | none =>
          unfold bugS
          simp only []
          split
          · exact ⟨hd.1, hd.2.1, fun hh => absurd hh (show ¬ (1 : Int) = 0 by decide)⟩
          · exact ⟨Int.le_refl _, by show (0 : Int) < _; omega, fun hh => absurd hh (by decide)⟩
theorem askH_facts {ns : List Nd} {ms : List Int} (h : marksS ns ms = true) : 0 ≤ (askH ns ms).2 ∧ (askH ns ms).2 < (ns.length : Int) ∧ ((askH ns ms).1 = 0 → rd ms (askH ns ms).2 = 0) := by
  obtain ⟨hm, hl, hx⟩ := marksS_spec h
  have hlen := mayT_len hm
  unfold askH
  by_cases c2 : rd ms 0 = 2
  · rw [if_pos c2]
    have hr := lastM_range ms ms.length (by omega)
    generalize lastM ms ms.length = w at hr
    have hbr := bestH_range (szH ns (dbt ns ms w.toNat ns.length) ms) (dbt ns ms w.toNat ns.length) ms (rd (szH ns (dbt ns ms w.toNat ns.length) ms) w) ns.length
    have hbs := bestH_spec (szH ns (dbt ns ms w.toNat ns.length) ms) (dbt ns ms w.toNat ns.length) ms (rd (szH ns (dbt ns ms w.toNat ns.length) ms) w) ns.length
    generalize bestH (szH ns (dbt ns ms w.toNat ns.length) ms) (dbt ns ms w.toNat ns.length) ms (rd (szH ns (dbt ns ms w.toNat ns.length) ms) w) ns.length = b at hbr hbs
    by_cases cb : b < 0
    · rw [if_pos cb]
      unfold bugS
      split
      · exact ⟨hr.1, by show w < _; omega, fun hh => absurd hh (show ¬ (1 : Int) = 0 by decide)⟩
      · exact ⟨Int.le_refl _, by show (0 : Int) < _; omega, fun hh => absurd hh (by decide)⟩
    · rw [if_neg cb]
      have h1 := hbs (by omega)
      unfold openB at h1
      rw [Bool.and_eq_true, beq_iff_eq] at h1
      exact ⟨by show 0 ≤ b; omega, hbr.2, fun _ => h1.2⟩
  · rw [if_neg c2]; exact askT_facts h
theorem askW_facts {ns : List Nd} {ms : List Int} (h : marksS ns ms = true) (w : Int) : 0 ≤ (askW w ns ms).2 ∧ (askW w ns ms).2 < (ns.length : Int) ∧ ((askW w ns ms).1 = 0 → rd ms (askW w ns ms).2 = 0) := by
  unfold askW
  split
  · exact askH_facts h
  · exact askT_facts h
theorem rd_setI (l : List Int) (i : Int) (v : Int) (h0 : 0 ≤ i) (h1 : i < (l.length : Int)) (j : Int) (hj : 0 ≤ j) : rd (l.set i.toNat v) j = if j = i then v else rd l j := by
  have h := rd_setN l i.toNat j.toNat v (by omega)
  rw [show ((j.toNat : Nat) : Int) = j by omega] at h
  rw [h]
  by_cases c : j = i
  · rw [if_pos c, if_pos (by rw [c])]
  · rw [if_neg c, if_neg (by omega)]
/-- an answered node has a mark -/
theorem goA_hit : ∀ (zs : List An) (m m' : List Int), goA zs m = some m' → ∀ j : Int, 0 ≤ j → (rd m j ≠ 0 ∨ ∃ a ∈ zs, a.f0 = j) → rd m' j ≠ 0
  | [], m, m', h, j, hj, hh => by
    obtain rfl := Option.some.inj h
    rcases hh with hh | ⟨a, ha, _⟩
    · exact hh
    · cases ha
  | a :: zs, m, m', h, j, hj, hh => by
    rw [goA] at h
    by_cases c : ((decide (0 ≤ a.f0) && decide (a.f0 < (m.length : Int))) && markB a.f1) = true
    · rw [if_pos c] at h
      rw [Bool.and_eq_true, Bool.and_eq_true, decide_eq_true_iff, decide_eq_true_iff] at c
      have hb := markB_spec c.2
      refine goA_hit zs _ m' h j hj ?_
      rw [rd_setI m a.f0 a.f1 c.1.1 c.1.2 j hj]
      rcases hh with hh | ⟨x, hx, he⟩
      · by_cases d : j = a.f0
        · rw [if_pos d]; exact .inl (by omega)
        · rw [if_neg d]; exact .inl hh
      · rcases List.mem_cons.1 hx with rfl | hx
        · rw [if_pos he.symm]; exact .inl (by omega)
        · exact .inr ⟨x, hx, he⟩
    · rw [if_neg c] at h; cases h
end Go.Proofs.YtgokcaccamfgfaaGreatDoor.G
end
section
-- Laid by the session's own driver gp.py over the kit's printer. Not trusted: Lean checks it.
namespace Go.Proofs.YtgokcaccamfgfaaGreatDoor.G
open Go.RowKit Go.Proofs.YtgokcaccamfgfaaGreatDoorW.PrintWords Go.Proofs.YtgokcaccamfgfaaGreatDoorW.PrintLast Go.Proofs.YtgokcaccamfgfaaGreatDoorW.PrintMore
attribute [local go_sem] max2_int min2_int max_two min_two max_three min_three max_four min_four   -- for this text's walks alone
set_option linter.unusedVariables false
set_option linter.unusedSimpArgs false

theorem eqA46 (d : Nat) (w : World) (x0 y0 : Int) (x1 y1 : Int) :
    (Op.equalIn (d + 2) 46 (.agg #[.int .i64 x0, .int .i64 x1]) (.agg #[.int .i64 y0, .int .i64 y1])).run Tryz.prog w = .ok (x0 == y0 && (x1 == y1)) w := by
  refine eqA_of Tryz.underlying46 (by kernel_rfl) ?_
  refine eqf_cons (by rfl) (by go_simp; rfl) (by go_simp; rfl) (by go_simp) ?_
  exact eqf_last (by rfl) (by go_simp; rfl) (by go_simp; rfl) (by go_simp)
end Go.Proofs.YtgokcaccamfgfaaGreatDoor.G
end
section
-- Laid by the session's own driver gp.py over the kit's printer. Not trusted: Lean checks it.
namespace Go.Proofs.YtgokcaccamfgfaaGreatDoor.G
open Go.RowKit Go.Proofs.YtgokcaccamfgfaaGreatDoorW.PrintWords Go.Proofs.YtgokcaccamfgfaaGreatDoorW.PrintLast Go.Proofs.YtgokcaccamfgfaaGreatDoorW.PrintMore
attribute [local go_sem] max2_int min2_int max_two min_two max_three min_three max_four min_four   -- for this text's walks alone
set_option linter.unusedVariables false
set_option linter.unusedSimpArgs false

attribute [local go_sem high] eqA46
/-! ### sleuthlaw0_SameAnswers: function 34 -/
def sleuthlaw0_SameAnswers.l0 : Nat → List (S46) → List (S46) → Int → Option (Bool)
  | 0, _, _, _ => none
  | k + 1, x0, x1, x5 => if x5 < (x0.length : Int) then (if 0 ≤ x5 then (if x5 < (x1.length : Int) then (if (!(((rd_T46 x0 x5).f0) == ((rd_T46 x1 x5).f0)) || (!(((rd_T46 x0 x5).f1) == ((rd_T46 x1 x5).f1)))) = true then (some false) else (sleuthlaw0_SameAnswers.l0 k x0 x1 (wrap64 (x5 + 1)))) else (none)) else (none)) else (some true)
def sleuthlaw0_SameAnswers.f (k : Nat) (l0 : List (S46)) (l1 : List (S46)) : Option (Bool) := if (l0.length : Int) = (l1.length : Int) then (sleuthlaw0_SameAnswers.l0 k l0 l1 0) else (some false)
theorem sleuthlaw0_SameAnswers.mono_l : ∀ k, (∀ y0 y1 y2, LeO (sleuthlaw0_SameAnswers.l0 k y0 y1 y2) (sleuthlaw0_SameAnswers.l0 (k + 1) y0 y1 y2))
  | 0 => fun _ _ _ r h => by simp [sleuthlaw0_SameAnswers.l0] at h
  | k + 1 => by
    have ih0 := sleuthlaw0_SameAnswers.mono_l k
    · intro y0 y1 y2
      unfold sleuthlaw0_SameAnswers.l0
      repeat' first
      | (with_reducible exact ih0 _ _ _)
      | (with_reducible exact LeO.refl _)
      | (with_reducible exact LeO.none _)
      | (with_reducible refine LeO.ite ?_ ?_)
      | (with_reducible refine LeO.bind ?_ (fun _ => ?_))
      | exact ih0 _ _ _
      | exact LeO.none _
      | refine LeO.ite ?_ ?_
      | refine LeO.bind ?_ (fun _ => ?_)
theorem sleuthlaw0_SameAnswers.mono : ∀ a0 a1 k, LeO (sleuthlaw0_SameAnswers.f k a0 a1) (sleuthlaw0_SameAnswers.f (k + 1) a0 a1) := by
  intro a0 a1 k
  have ih0 := sleuthlaw0_SameAnswers.mono_l k
  unfold sleuthlaw0_SameAnswers.f
  repeat' first
      | (with_reducible exact ih0 _ _ _)
      | (with_reducible exact LeO.refl _)
      | (with_reducible exact LeO.none _)
      | (with_reducible refine LeO.ite ?_ ?_)
      | (with_reducible refine LeO.bind ?_ (fun _ => ?_))
      | exact ih0 _ _ _
      | exact LeO.none _
      | refine LeO.ite ?_ ?_
      | refine LeO.bind ?_ (fun _ => ?_)
set_option maxHeartbeats 8000000 in
set_option maxRecDepth 100000 in
theorem sleuthlaw0_SameAnswers.calls (k : Nat) (A0 : Option Addr) (c0 : Nat) (l0 : List (S46)) (A1 : Option Addr) (c1 : Nat) (l1 : List (S46)) (r : Bool) (w : World) (hr0 : Kd.C k46 w A0 l0.length l0) (hc0 : l0.length ≤ c0) (hr1 : Kd.C k46 w A1 l1.length l1) (hc1 : l1.length ≤ c1) (h : sleuthlaw0_SameAnswers.f k l0 l1 = some r) :
    Calls Tryz.prog 34 #[.slice A0 l0.length c0, .slice A1 l1.length c1] w fun e w' => e = .returned (.bool r) ∧ Drawn0 w w' := by
  have hu46 := Tryz.underlying46
  have HR0 := Aside0.mk hr0
  have HC0 := Aside0.mk hc0
  clear hr0 hc0
  have HR1 := Aside0.mk hr1
  have HC1 := Aside0.mk hc1
  clear hr1 hc1
  have H : (if (l0.length : Int) = (l1.length : Int) then (sleuthlaw0_SameAnswers.l0 k l0 l1 0) else (some false)) = some r := h
  clear h
  by_cases c3 : (l0.length : Int) = (l1.length : Int)
  case neg =>
    rw [if_neg c3] at H
    have c3b0 : ((l0.length : Int) == (l1.length : Int)) = false := beq_eq_false_iff_ne.mpr c3
    have c3b1 : ((l0.length : Int) != (l1.length : Int)) = true := bne_iff_ne.mpr c3
    have c3b2 : (l0.length == l1.length) = false := by first | simpa using c3 | (simp at c3 ⊢; omega)
    obtain rfl := Option.some.inj H
    go_enter Tryz.func34, Tryz.ntmps34
    go_wp2
    repeat (go_quiet (fail); try go_wp2)
    go_ret
    exact ⟨by first | rfl | (simp; done) | (simp [*]; done), by repeat (first | exact Drawn0.refl _ | apply Drawn0.step)⟩

  rw [if_pos c3] at H
  have c3b0 : ((l0.length : Int) == (l1.length : Int)) = true := beq_iff_eq.mpr c3
  have c3b1 : ((l0.length : Int) != (l1.length : Int)) = false := bne_eq_false_iff_eq.mpr c3
  have c3b2 : (l0.length == l1.length) = true := by first | simpa using c3 | (simp at c3 ⊢; omega)
  clear c3
  have H' := Aside0.mk H
  clear H
  go_enter Tryz.func34, Tryz.ntmps34
  go_wp2
  repeat (go_quiet (fail); try go_wp2)
  go_loopg [5] k (fun kq v5 w' => ∃ (x5_1 : Int), v5 = .int .i64 x5_1 ∧ Aside0 (sleuthlaw0_SameAnswers.l0 kq l0 l1 x5_1 = some r) ∧ Aside0 (kq ≤ k) ∧ Drawn0 w w')
  case atStart => exact ⟨(0), hW_, H', ⟨Nat.le_refl _⟩, by repeat (first | exact Drawn0.refl _ | apply Drawn0.step)⟩
  case round =>
    clear H'
    try clear c1
    try clear p2
    try clear c3
    try clear c3b0
    try clear c3b1
    try clear c3b2
    obtain ⟨x5_1, rfl, HA, HK1, ⟨m1, rfl⟩⟩ := hrel
    cases gk with
    | zero => exact absurd HA.out (by simp [sleuthlaw0_SameAnswers.l0])
    | succ k1 =>
      have H := HA.out
      clear HA
      simp only [sleuthlaw0_SameAnswers.l0] at H
      by_cases c4 : x5_1 < (l0.length : Int)
      case neg =>
        rw [if_neg c4] at H
        have c4b0 : decide (x5_1 < (l0.length : Int)) = false := decide_eq_false c4
        clear c4
        obtain rfl := Option.some.inj H
        go_wp2
        repeat (go_quiet (fail); try go_wp2)
        go_ret
        exact ⟨by first | rfl | (simp; done) | (simp [*]; done), by repeat (first | exact Drawn0.refl _ | apply Drawn0.step)⟩
      rw [if_pos c4] at H
      have c4b0 : decide (x5_1 < (l0.length : Int)) = true := decide_eq_true c4
      clear c4
      replace H := ifI_ H; obtain ⟨c5, H⟩ := H
      have c5b0 : decide (0 ≤ x5_1) = true := decide_eq_true c5
      clear c5
      replace H := ifI_ H; obtain ⟨c6, H⟩ := H
      have c6b0 : decide (x5_1 < (l1.length : Int)) = true := decide_eq_true c6
      clear c6
      by_cases c7 : (!(((rd_T46 l0 x5_1).f0) == ((rd_T46 l1 x5_1).f0)) || (!(((rd_T46 l0 x5_1).f1) == ((rd_T46 l1 x5_1).f1)))) = true
      case pos =>
        rw [if_pos c7] at H
        have c7b0 : (!(((rd_T46 l0 x5_1).f0) == ((rd_T46 l1 x5_1).f0)) || (!(((rd_T46 l0 x5_1).f1) == ((rd_T46 l1 x5_1).f1)))) = true := c7
        clear c7
        obtain rfl := Option.some.inj H
        have p424 : 0 ≤ (x5_1 : Int) := of_decide_eq_true hA_
        have q424 : x5_1 < (l0.length : Int) := of_decide_eq_true hA_
        obtain ⟨ad424, e424, hx424_0, hx424_1⟩ := at_T46 HR0.out x5_1 p424 q424
        cases e424
        replace p424 := eq_true p424
        replace q424 := eq_true q424
        have p425 : 0 ≤ (x5_1 : Int) := of_decide_eq_true hA_
        have q425 : x5_1 < (l1.length : Int) := of_decide_eq_true hA_
        obtain ⟨ad425, e425, hx425_0, hx425_1⟩ := at_T46 HR1.out x5_1 p425 q425
        cases e425
        replace p425 := eq_true p425
        replace q425 := eq_true q425
        go_wp2
        repeat (go_quiet (fail); try go_wp2)
        go_ret
        exact ⟨by first | rfl | (simp; done) | (simp [*]; done), by repeat (first | exact Drawn0.refl _ | apply Drawn0.step)⟩
      rw [if_neg c7] at H
      have c7b0 : (!(((rd_T46 l0 x5_1).f0) == ((rd_T46 l1 x5_1).f0)) || (!(((rd_T46 l0 x5_1).f1) == ((rd_T46 l1 x5_1).f1)))) = false := by simpa using c7
      clear c7
      have H' := Aside0.mk H
      clear H
      have p424 : 0 ≤ (x5_1 : Int) := of_decide_eq_true hA_
      have q424 : x5_1 < (l0.length : Int) := of_decide_eq_true hA_
      obtain ⟨ad424, e424, hx424_0, hx424_1⟩ := at_T46 HR0.out x5_1 p424 q424
      cases e424
      replace p424 := eq_true p424
      replace q424 := eq_true q424
      have p425 : 0 ≤ (x5_1 : Int) := of_decide_eq_true hA_
      have q425 : x5_1 < (l1.length : Int) := of_decide_eq_true hA_
      obtain ⟨ad425, e425, hx425_0, hx425_1⟩ := at_T46 HR1.out x5_1 p425 q425
      cases e425
      replace p425 := eq_true p425
      replace q425 := eq_true q425
      go_wp2
      repeat (go_quiet (fail); try go_wp2)
      go_roundg k1
      case measure => have := HK1.out; omega
      case rel => exact ⟨(wrap64 (x5_1 + 1)), hW_, H', ⟨by have := HK1.out; omega⟩, by repeat (first | exact Drawn0.refl _ | apply Drawn0.step)⟩
/-! ### sleuthlaw0_SameSession: function 15 -/
def sleuthlaw0_SameSession.f (k : Nat) (l0_0 : List (S64)) (a0_1 : Int) (l0_2 : List (S46)) (l1_0 : List (S64)) (a1_1 : Int) (l1_2 : List (S46)) : Option (Bool) := (sleuthlaw0_SameNodes.f k l0_0 l1_0).bind fun t428 => (if t428 = true then (if a0_1 = a1_1 then ((sleuthlaw0_SameAnswers.f k l0_2 l1_2).bind fun t429 => (some t429)) else (some false)) else (some false))
theorem sleuthlaw0_SameSession.mono : ∀ a0 a1 a2 a3 a4 a5 k, LeO (sleuthlaw0_SameSession.f k a0 a1 a2 a3 a4 a5) (sleuthlaw0_SameSession.f (k + 1) a0 a1 a2 a3 a4 a5) := by
  intro a0 a1 a2 a3 a4 a5 k
  unfold sleuthlaw0_SameSession.f
  repeat' first
      | (with_reducible exact sleuthlaw0_SameAnswers.mono _ _ _)
      | (with_reducible exact sleuthlaw0_SameNodes.mono _ _ _)
      | (with_reducible exact LeO.refl _)
      | (with_reducible exact LeO.none _)
      | (with_reducible refine LeO.ite ?_ ?_)
      | (with_reducible refine LeO.bind ?_ (fun _ => ?_))
      | exact sleuthlaw0_SameAnswers.mono _ _ _
      | exact sleuthlaw0_SameNodes.mono _ _ _
      | exact LeO.none _
      | refine LeO.ite ?_ ?_
      | refine LeO.bind ?_ (fun _ => ?_)
set_option maxHeartbeats 8000000 in
set_option maxRecDepth 100000 in
theorem sleuthlaw0_SameSession.calls (k : Nat) (A0_0 : Option Addr) (c0_0 : Nat) (l0_0 : List (S64)) (a0_1 : Int) (A0_2 : Option Addr) (c0_2 : Nat) (l0_2 : List (S46)) (A1_0 : Option Addr) (c1_0 : Nat) (l1_0 : List (S64)) (a1_1 : Int) (A1_2 : Option Addr) (c1_2 : Nat) (l1_2 : List (S46)) (r : Bool) (w : World) (hr0_0 : Kd.C k64 w A0_0 l0_0.length l0_0) (hc0_0 : l0_0.length ≤ c0_0) (hr0_2 : Kd.C k46 w A0_2 l0_2.length l0_2) (hc0_2 : l0_2.length ≤ c0_2) (hr1_0 : Kd.C k64 w A1_0 l1_0.length l1_0) (hc1_0 : l1_0.length ≤ c1_0) (hr1_2 : Kd.C k46 w A1_2 l1_2.length l1_2) (hc1_2 : l1_2.length ≤ c1_2) (h : sleuthlaw0_SameSession.f k l0_0 a0_1 l0_2 l1_0 a1_1 l1_2 = some r) :
    Calls Tryz.prog 15 #[.agg #[.slice A0_0 l0_0.length c0_0, .int .i64 a0_1, .slice A0_2 l0_2.length c0_2], .agg #[.slice A1_0 l1_0.length c1_0, .int .i64 a1_1, .slice A1_2 l1_2.length c1_2]] w fun e w' => e = .returned (.bool r) ∧ Below w.heap.size w w' := by
  have hu25 := Tryz.underlying25
  have HR0_0 := Aside0.mk hr0_0
  have HC0_0 := Aside0.mk hc0_0
  clear hr0_0 hc0_0
  have HR0_2 := Aside0.mk hr0_2
  have HC0_2 := Aside0.mk hc0_2
  clear hr0_2 hc0_2
  have HR1_0 := Aside0.mk hr1_0
  have HC1_0 := Aside0.mk hc1_0
  clear hr1_0 hc1_0
  have HR1_2 := Aside0.mk hr1_2
  have HC1_2 := Aside0.mk hc1_2
  clear hr1_2 hc1_2
  have HB := Aside0.mk (Below.refl w.heap.size w)
  have H : ((sleuthlaw0_SameNodes.f k l0_0 l1_0).bind fun t428 => (if t428 = true then (if a0_1 = a1_1 then ((sleuthlaw0_SameAnswers.f k l0_2 l1_2).bind fun t429 => (some t429)) else (some false)) else (some false))) = some r := h
  clear h
  replace H := Option.bind_eq_some_iff.mp H
  obtain ⟨t428, A30, H⟩ := H
  replace H : (if t428 = true then (if a0_1 = a1_1 then ((sleuthlaw0_SameAnswers.f k l0_2 l1_2).bind fun t429 => (some t429)) else (some false)) else (some false)) = some r := H
  have A3 := Aside0.mk A30
  clear A30
  by_cases c4 : t428 = true
  case neg =>
    replace c4 := Bool.eq_false_iff.mpr c4
    subst c4
    have H1 : (some false) = some r := by rw [if_neg (show ¬ (false = true) by decide)] at H; exact H
    clear H
    have H := H1
    clear H1
    obtain rfl := Option.some.inj H
    go_enter Tryz.func15, Tryz.ntmps15
    go_wp2_with (first | ((with_reducible refine gate_dst (N := 2) rfl ?_); refine boxE_ 2 #[.slice A0_0 l0_0.length c0_0, .int .i64 a0_1, .slice A0_2 l0_2.length c0_2] 25 ?_; intro gb426 hg w23 hbox hb; have n0_ := Aside0.mk (below_step hB_ hb); have n1_ := Aside0.mk (hbox); have n2_ := Aside0.mk ((gE_ hg : w.heap.size ≤ gb426)); have n3_ := Aside0.mk ((gE_ hg : w.heap.size ≤ gb426)); clear HB; have HB := n0_; have BK426 := n1_; have GW426 := n2_; have GE426 := n3_; clear n0_ n1_ n2_ n3_; clear hb hbox hg) | ((with_reducible refine gate_dst (N := 3) rfl ?_); refine boxE_ 3 #[.slice A1_0 l1_0.length c1_0, .int .i64 a1_1, .slice A1_2 l1_2.length c1_2] 25 ?_; intro gb427 hg w24 hbox hb; have n0_ := Aside0.mk (bB_ BK426.out hb); have n1_ := Aside0.mk (below_step hC_ hb); have n2_ := Aside0.mk (hbox); have n3_ := Aside0.mk ((gE_ hg : w.heap.size ≤ gb427)); have n4_ := Aside0.mk ((gE_ hg : w.heap.size ≤ gb427)); have n5_ := Aside0.mk ((bL_ BK426.out hg : gb426 ≠ gb427)); have n6_ := Aside0.mk ((bG_ BK426.out hg : gb427 ≠ gb426)); clear BK426 HB; have BK426 := n0_; have HB := n1_; have BK427 := n2_; have GW427 := n3_; have GE427 := n4_; have NB426_427 := n5_; have NB427_426 := n6_; clear n0_ n1_ n2_ n3_ n4_ n5_ n6_; clear hb hbox hg; have hnb25 := NB426_427.out; have hnc25 := NB427_426.out; obtain ⟨hcz26_0, hcz26_1, hcz26_2, hfz26_0, hfz26_1, hfz26_2⟩ := bx3_ BK426.out; obtain ⟨hcz27_0, hcz27_1, hcz27_2, hfz27_0, hfz27_1, hfz27_2⟩ := bx3_ BK427.out) | ((with_reducible refine gate_callee (f := 33) rfl ?_); refine goesL_ (some 9) rfl rfl Tryz.func33 (by kernel_rfl) rfl #[.slice A0_0 l0_0.length c0_0, .slice A1_0 l1_0.length c1_0] rfl hL_ ?_; (with_reducible refine (sleuthlaw0_SameNodes.calls k _ _ l0_0 _ _ l1_0 false _ ?side1 ?side2 ?side3 ?side4 A3.out).mono ?_); (case side1 => exact cB_ HR0_0.out); (case side2 => exact HC0_0.out); (case side3 => exact cB_ HR1_0.out); (case side4 => exact HC1_0.out); rintro e w28 ⟨rfl, hb⟩; refine ⟨_, rfl, ?_⟩; have n0_ := Aside0.mk (bB_ BK426.out hb); have n1_ := Aside0.mk (bB_ BK427.out hb); have n2_ := Aside0.mk (below_step hC_ hb); clear BK426 BK427 HB; have BK426 := n0_; have BK427 := n1_; have HB := n2_; clear n0_ n1_ n2_; (try clear hb); (try clear hb2); (try clear hk); (try clear hi)))
    go_ret
    exact ⟨hV_, hC_⟩

  subst c4
  have H1 : (if a0_1 = a1_1 then ((sleuthlaw0_SameAnswers.f k l0_2 l1_2).bind fun t429 => (some t429)) else (some false)) = some r := by rw [if_pos rfl] at H; exact H
  clear H
  have H := H1
  clear H1
  by_cases c5 : a0_1 = a1_1
  case neg =>
    rw [if_neg c5] at H
    have c5b0 : (a0_1 == a1_1) = false := beq_eq_false_iff_ne.mpr c5
    have c5b1 : (a0_1 != a1_1) = true := bne_iff_ne.mpr c5
    obtain rfl := Option.some.inj H
    go_enter Tryz.func15, Tryz.ntmps15
    go_wp2_with (first | ((with_reducible refine gate_dst (N := 2) rfl ?_); refine boxE_ 2 #[.slice A0_0 l0_0.length c0_0, .int .i64 a0_1, .slice A0_2 l0_2.length c0_2] 25 ?_; intro gb426 hg w15 hbox hb; have n0_ := Aside0.mk (below_step hB_ hb); have n1_ := Aside0.mk (hbox); have n2_ := Aside0.mk ((gE_ hg : w.heap.size ≤ gb426)); have n3_ := Aside0.mk ((gE_ hg : w.heap.size ≤ gb426)); clear HB; have HB := n0_; have BK426 := n1_; have GW426 := n2_; have GE426 := n3_; clear n0_ n1_ n2_ n3_; clear hb hbox hg) | ((with_reducible refine gate_dst (N := 3) rfl ?_); refine boxE_ 3 #[.slice A1_0 l1_0.length c1_0, .int .i64 a1_1, .slice A1_2 l1_2.length c1_2] 25 ?_; intro gb427 hg w16 hbox hb; have n0_ := Aside0.mk (bB_ BK426.out hb); have n1_ := Aside0.mk (below_step hC_ hb); have n2_ := Aside0.mk (hbox); have n3_ := Aside0.mk ((gE_ hg : w.heap.size ≤ gb427)); have n4_ := Aside0.mk ((gE_ hg : w.heap.size ≤ gb427)); have n5_ := Aside0.mk ((bL_ BK426.out hg : gb426 ≠ gb427)); have n6_ := Aside0.mk ((bG_ BK426.out hg : gb427 ≠ gb426)); clear BK426 HB; have BK426 := n0_; have HB := n1_; have BK427 := n2_; have GW427 := n3_; have GE427 := n4_; have NB426_427 := n5_; have NB427_426 := n6_; clear n0_ n1_ n2_ n3_ n4_ n5_ n6_; clear hb hbox hg; have hnb17 := NB426_427.out; have hnc17 := NB427_426.out; obtain ⟨hcz18_0, hcz18_1, hcz18_2, hfz18_0, hfz18_1, hfz18_2⟩ := bx3_ BK426.out; obtain ⟨hcz19_0, hcz19_1, hcz19_2, hfz19_0, hfz19_1, hfz19_2⟩ := bx3_ BK427.out) | ((with_reducible refine gate_callee (f := 33) rfl ?_); refine goesL_ (some 9) rfl rfl Tryz.func33 (by kernel_rfl) rfl #[.slice A0_0 l0_0.length c0_0, .slice A1_0 l1_0.length c1_0] rfl hL_ ?_; (with_reducible refine (sleuthlaw0_SameNodes.calls k _ _ l0_0 _ _ l1_0 true _ ?side1 ?side2 ?side3 ?side4 A3.out).mono ?_); (case side1 => exact cB_ HR0_0.out); (case side2 => exact HC0_0.out); (case side3 => exact cB_ HR1_0.out); (case side4 => exact HC1_0.out); rintro e w20 ⟨rfl, hb⟩; refine ⟨_, rfl, ?_⟩; have n0_ := Aside0.mk (bB_ BK426.out hb); have n1_ := Aside0.mk (bB_ BK427.out hb); have n2_ := Aside0.mk (below_step hC_ hb); clear BK426 BK427 HB; have BK426 := n0_; have BK427 := n1_; have HB := n2_; clear n0_ n1_ n2_; (try clear hb); (try clear hb2); (try clear hk); (try clear hi); obtain ⟨hcz21_0, hcz21_1, hcz21_2, hfz21_0, hfz21_1, hfz21_2⟩ := bx3_ BK426.out; obtain ⟨hcz22_0, hcz22_1, hcz22_2, hfz22_0, hfz22_1, hfz22_2⟩ := bx3_ BK427.out))
    go_ret
    exact ⟨hV_, hC_⟩
  rw [if_pos c5] at H
  have c5b0 : (a0_1 == a1_1) = true := beq_iff_eq.mpr c5
  have c5b1 : (a0_1 != a1_1) = false := bne_eq_false_iff_eq.mpr c5
  clear c5
  replace H := Option.bind_eq_some_iff.mp H
  obtain ⟨t429, A60, H⟩ := H
  replace H : (some t429) = some r := H
  have A6 := Aside0.mk A60
  clear A60
  obtain rfl := Option.some.inj H
  go_enter Tryz.func15, Tryz.ntmps15
  go_wp2_with (first | ((with_reducible refine gate_dst (N := 2) rfl ?_); refine boxE_ 2 #[.slice A0_0 l0_0.length c0_0, .int .i64 a0_1, .slice A0_2 l0_2.length c0_2] 25 ?_; intro gb426 hg w7 hbox hb; have n0_ := Aside0.mk (below_step hB_ hb); have n1_ := Aside0.mk (hbox); have n2_ := Aside0.mk ((gE_ hg : w.heap.size ≤ gb426)); have n3_ := Aside0.mk ((gE_ hg : w.heap.size ≤ gb426)); clear HB; have HB := n0_; have BK426 := n1_; have GW426 := n2_; have GE426 := n3_; clear n0_ n1_ n2_ n3_; clear hb hbox hg) | ((with_reducible refine gate_dst (N := 3) rfl ?_); refine boxE_ 3 #[.slice A1_0 l1_0.length c1_0, .int .i64 a1_1, .slice A1_2 l1_2.length c1_2] 25 ?_; intro gb427 hg w8 hbox hb; have n0_ := Aside0.mk (bB_ BK426.out hb); have n1_ := Aside0.mk (below_step hC_ hb); have n2_ := Aside0.mk (hbox); have n3_ := Aside0.mk ((gE_ hg : w.heap.size ≤ gb427)); have n4_ := Aside0.mk ((gE_ hg : w.heap.size ≤ gb427)); have n5_ := Aside0.mk ((bL_ BK426.out hg : gb426 ≠ gb427)); have n6_ := Aside0.mk ((bG_ BK426.out hg : gb427 ≠ gb426)); clear BK426 HB; have BK426 := n0_; have HB := n1_; have BK427 := n2_; have GW427 := n3_; have GE427 := n4_; have NB426_427 := n5_; have NB427_426 := n6_; clear n0_ n1_ n2_ n3_ n4_ n5_ n6_; clear hb hbox hg; have hnb9 := NB426_427.out; have hnc9 := NB427_426.out; obtain ⟨hcz10_0, hcz10_1, hcz10_2, hfz10_0, hfz10_1, hfz10_2⟩ := bx3_ BK426.out; obtain ⟨hcz11_0, hcz11_1, hcz11_2, hfz11_0, hfz11_1, hfz11_2⟩ := bx3_ BK427.out) | ((with_reducible refine gate_callee (f := 33) rfl ?_); refine goesL_ (some 9) rfl rfl Tryz.func33 (by kernel_rfl) rfl #[.slice A0_0 l0_0.length c0_0, .slice A1_0 l1_0.length c1_0] rfl hL_ ?_; (with_reducible refine (sleuthlaw0_SameNodes.calls k _ _ l0_0 _ _ l1_0 true _ ?side1 ?side2 ?side3 ?side4 A3.out).mono ?_); (case side1 => exact cB_ HR0_0.out); (case side2 => exact HC0_0.out); (case side3 => exact cB_ HR1_0.out); (case side4 => exact HC1_0.out); rintro e w12 ⟨rfl, hb⟩; refine ⟨_, rfl, ?_⟩; have n0_ := Aside0.mk (bB_ BK426.out hb); have n1_ := Aside0.mk (bB_ BK427.out hb); have n2_ := Aside0.mk (below_step hC_ hb); clear BK426 BK427 HB; have BK426 := n0_; have BK427 := n1_; have HB := n2_; clear n0_ n1_ n2_; (try clear hb); (try clear hb2); (try clear hk); (try clear hi); obtain ⟨hcz13_0, hcz13_1, hcz13_2, hfz13_0, hfz13_1, hfz13_2⟩ := bx3_ BK426.out; obtain ⟨hcz14_0, hcz14_1, hcz14_2, hfz14_0, hfz14_1, hfz14_2⟩ := bx3_ BK427.out) | (go_at_call 34; (with_reducible refine (sleuthlaw0_SameAnswers.calls k _ _ l0_2 _ _ l1_2 t429 _ ?side1 ?side2 ?side3 ?side4 A6.out).mono ?_); (case side1 => exact cB_ HR0_2.out); (case side2 => exact HC0_2.out); (case side3 => exact cB_ HR1_2.out); (case side4 => exact HC1_2.out); rintro e w' ⟨rfl, ⟨nd, rfl⟩⟩))
  go_ret
  exact ⟨hV_, hC_⟩
/-! ### sleuthlaw20_some: function 17 -/
def sleuthlaw20_some.f  : Option ((List (S64))) := some (([(⟨0, (-1), ([] : List ByteArray), (⟨#[57]⟩ : ByteArray)⟩ : S64), (⟨1, 0, (([(⟨#[64, 55, 40, 95, 32, 52, 41]⟩ : ByteArray), (⟨#[53]⟩ : ByteArray)] : List ByteArray)), (⟨#[57]⟩ : ByteArray)⟩ : S64), (⟨2, 0, ([] : List ByteArray), (⟨#[33]⟩ : ByteArray)⟩ : S64), (⟨1, 1, (([(⟨#[49]⟩ : ByteArray), (⟨#[95]⟩ : ByteArray)] : List ByteArray)), (⟨#[95]⟩ : ByteArray)⟩ : S64), (⟨1, 2, (([(⟨#[49]⟩ : ByteArray), (⟨#[95]⟩ : ByteArray)] : List ByteArray)), (⟨#[95]⟩ : ByteArray)⟩ : S64)] : List (S64)))
set_option maxHeartbeats 8000000 in
set_option maxRecDepth 100000 in
theorem sleuthlaw20_some.calls  (r : List (S64)) (w : World) (h : sleuthlaw20_some.f  = some r) :
    Calls Tryz.prog 17 #[] w fun e w' => ∃ v0_ : Value, e = .returned (v0_) ∧ Kd.N k64 64 w' w.heap.size (fun k_ => (w.heap.size ≤ k_)) v0_ r ∧ Below w.heap.size w w' := by
  have hu64 := Tryz.underlying64
  have HB := Aside0.mk (Below.refl w.heap.size w)
  have H : (some (([(⟨0, (-1), ([] : List ByteArray), (⟨#[57]⟩ : ByteArray)⟩ : S64), (⟨1, 0, (([(⟨#[64, 55, 40, 95, 32, 52, 41]⟩ : ByteArray), (⟨#[53]⟩ : ByteArray)] : List ByteArray)), (⟨#[57]⟩ : ByteArray)⟩ : S64), (⟨2, 0, ([] : List ByteArray), (⟨#[33]⟩ : ByteArray)⟩ : S64), (⟨1, 1, (([(⟨#[49]⟩ : ByteArray), (⟨#[95]⟩ : ByteArray)] : List ByteArray)), (⟨#[95]⟩ : ByteArray)⟩ : S64), (⟨1, 2, (([(⟨#[49]⟩ : ByteArray), (⟨#[95]⟩ : ByteArray)] : List ByteArray)), (⟨#[95]⟩ : ByteArray)⟩ : S64)] : List (S64)))) = some r := h
  clear h
  obtain ⟨y430, hy430⟩ : ∃ y_ : List ByteArray, y_ = (([(⟨#[64, 55, 40, 95, 32, 52, 41]⟩ : ByteArray), (⟨#[53]⟩ : ByteArray)] : List ByteArray)) := ⟨_, rfl⟩
  replace H : (some (([(⟨0, (-1), ([] : List ByteArray), (⟨#[57]⟩ : ByteArray)⟩ : S64), (⟨1, 0, y430, (⟨#[57]⟩ : ByteArray)⟩ : S64), (⟨2, 0, ([] : List ByteArray), (⟨#[33]⟩ : ByteArray)⟩ : S64), (⟨1, 1, (([(⟨#[49]⟩ : ByteArray), (⟨#[95]⟩ : ByteArray)] : List ByteArray)), (⟨#[95]⟩ : ByteArray)⟩ : S64), (⟨1, 2, (([(⟨#[49]⟩ : ByteArray), (⟨#[95]⟩ : ByteArray)] : List ByteArray)), (⟨#[95]⟩ : ByteArray)⟩ : S64)] : List (S64)))) = some r := by first | (rw [hy430]; with_reducible exact H) | (have H2_ := (Option.bind_some _ _).symm.trans H; rw [hy430]; with_reducible exact H2_) | (have H2_ := (Option.bind_some _ _).symm.trans H; with_reducible exact H2_) | with_reducible exact H | (rw [hy430]; exact H) | exact H
  have Ny430 := Aside0.mk hy430
  clear hy430
  obtain ⟨y433, hy433⟩ : ∃ y_ : List ByteArray, y_ = (([(⟨#[49]⟩ : ByteArray), (⟨#[95]⟩ : ByteArray)] : List ByteArray)) := ⟨_, rfl⟩
  replace H : (some (([(⟨0, (-1), ([] : List ByteArray), (⟨#[57]⟩ : ByteArray)⟩ : S64), (⟨1, 0, y430, (⟨#[57]⟩ : ByteArray)⟩ : S64), (⟨2, 0, ([] : List ByteArray), (⟨#[33]⟩ : ByteArray)⟩ : S64), (⟨1, 1, y433, (⟨#[95]⟩ : ByteArray)⟩ : S64), (⟨1, 2, (([(⟨#[49]⟩ : ByteArray), (⟨#[95]⟩ : ByteArray)] : List ByteArray)), (⟨#[95]⟩ : ByteArray)⟩ : S64)] : List (S64)))) = some r := by first | (rw [hy433]; with_reducible exact H) | (have H2_ := (Option.bind_some _ _).symm.trans H; rw [hy433]; with_reducible exact H2_) | (have H2_ := (Option.bind_some _ _).symm.trans H; with_reducible exact H2_) | with_reducible exact H | (rw [hy433]; exact H) | exact H
  have Ny433 := Aside0.mk hy433
  clear hy433
  obtain ⟨y436, hy436⟩ : ∃ y_ : List ByteArray, y_ = (([(⟨#[49]⟩ : ByteArray), (⟨#[95]⟩ : ByteArray)] : List ByteArray)) := ⟨_, rfl⟩
  replace H : (some (([(⟨0, (-1), ([] : List ByteArray), (⟨#[57]⟩ : ByteArray)⟩ : S64), (⟨1, 0, y430, (⟨#[57]⟩ : ByteArray)⟩ : S64), (⟨2, 0, ([] : List ByteArray), (⟨#[33]⟩ : ByteArray)⟩ : S64), (⟨1, 1, y433, (⟨#[95]⟩ : ByteArray)⟩ : S64), (⟨1, 2, y436, (⟨#[95]⟩ : ByteArray)⟩ : S64)] : List (S64)))) = some r := by first | (rw [hy436]; with_reducible exact H) | (have H2_ := (Option.bind_some _ _).symm.trans H; rw [hy436]; with_reducible exact H2_) | (have H2_ := (Option.bind_some _ _).symm.trans H; with_reducible exact H2_) | with_reducible exact H | (rw [hy436]; exact H) | exact H
  have Ny436 := Aside0.mk hy436
  clear hy436
  obtain ⟨y439, hy439⟩ : ∃ y_ : List (S64), y_ = (([(⟨0, (-1), ([] : List ByteArray), (⟨#[57]⟩ : ByteArray)⟩ : S64), (⟨1, 0, y430, (⟨#[57]⟩ : ByteArray)⟩ : S64), (⟨2, 0, ([] : List ByteArray), (⟨#[33]⟩ : ByteArray)⟩ : S64), (⟨1, 1, y433, (⟨#[95]⟩ : ByteArray)⟩ : S64), (⟨1, 2, y436, (⟨#[95]⟩ : ByteArray)⟩ : S64)] : List (S64))) := ⟨_, rfl⟩
  replace H : (some y439) = some r := by first | (rw [hy439]; with_reducible exact H) | (have H2_ := (Option.bind_some _ _).symm.trans H; rw [hy439]; with_reducible exact H2_) | (have H2_ := (Option.bind_some _ _).symm.trans H; with_reducible exact H2_) | with_reducible exact H | (rw [hy439]; exact H) | exact H
  have Ny439 := Aside0.mk hy439
  clear hy439
  obtain rfl := Option.some.inj H
  go_enter Tryz.func17, Tryz.ntmps17
  go_wp2_with (first | ((with_reducible refine gate_dst (N := 2) rfl ?_); refine Kd.R_lit Kd.string _ 9 ?hg (N := 2) ?hd (xs := ([(⟨#[64, 55, 40, 95, 32, 52, 41]⟩ : ByteArray), (⟨#[53]⟩ : ByteArray)] : List ByteArray)) (inner := [.string (⟨#[64, 55, 40, 95, 32, 52, 41]⟩ : ByteArray), .string (⟨#[53]⟩ : ByteArray)]) (ok := fun _ => True) (okp := fun _ => True) ?hr ?hp (fun _ hk => hk) trivial (Below.refl _ _) (Nat.le_refl _) (by simp) ?_; (case hd => rfl); (case hg => rfl); (case hr => first | (go_simp; done) | (go_simp; rfl)); (case hp => exact (Reps.one (show Kd.M Kd.string _ _ _ (⟨#[64, 55, 40, 95, 32, 52, 41]⟩ : ByteArray) [.string (⟨#[64, 55, 40, 95, 32, 52, 41]⟩ : ByteArray)] from rfl) (Reps.one (show Kd.M Kd.string _ _ _ (⟨#[53]⟩ : ByteArray) [.string (⟨#[53]⟩ : ByteArray)] from rfl) (Reps.none _ _)))); intro v431 w1 ho2 hb hg_ hnew_; clear hg_ hnew_; (first | rw [← Ny430.out] at ho2 | (simp only [Int.reduceToNat] at ho2; rw [← Ny430.out] at ho2)); have n0_ := Aside0.mk (Kd.R_lower (Kd.R_newM (M := fun k_ => (w.heap.size ≤ k_)) ho2 hS_ (fun k_ h_ => h_)) hS_); have n1_ := Aside0.mk (below_step hB_ hb); clear HB; have HO432 := n0_; have HB := n1_; clear n0_ n1_; clear hb ho2; obtain ⟨Ao3, co3, eo3⟩ := Kd.R_slice HO432.out; subst eo3) | ((with_reducible refine gate_dst (N := 5) rfl ?_); refine Kd.R_lit Kd.string _ 9 ?hg (N := 5) ?hd (xs := ([(⟨#[49]⟩ : ByteArray), (⟨#[95]⟩ : ByteArray)] : List ByteArray)) (inner := [.string (⟨#[49]⟩ : ByteArray), .string (⟨#[95]⟩ : ByteArray)]) (ok := fun _ => True) (okp := fun _ => True) ?hr ?hp (fun _ hk => hk) trivial (Below.refl _ _) (Nat.le_refl _) (by simp) ?_; (case hd => rfl); (case hg => rfl); (case hr => first | (go_simp; done) | (go_simp; rfl)); (case hp => exact (Reps.one (show Kd.M Kd.string _ _ _ (⟨#[49]⟩ : ByteArray) [.string (⟨#[49]⟩ : ByteArray)] from rfl) (Reps.one (show Kd.M Kd.string _ _ _ (⟨#[95]⟩ : ByteArray) [.string (⟨#[95]⟩ : ByteArray)] from rfl) (Reps.none _ _)))); intro v434 w4 ho5 hb hg_ hnew_; clear hg_ hnew_; (first | rw [← Ny433.out] at ho5 | (simp only [Int.reduceToNat] at ho5; rw [← Ny433.out] at ho5)); have n0_ := Aside0.mk (Kd.R_elder' (hR_ HO432.out) (Kd.R_base ho5) hb); have n1_ := Aside0.mk (Kd.R_lower (Kd.R_new' (Kd.R_newM (M := fun k_ => (w.heap.size ≤ k_)) ho5 hS_ (fun k_ h_ => h_)) (Kd.R_lt (hR_ HO432.out))) hS_); have n2_ := Aside0.mk (below_step hB_ hb); clear HO432 HB; have HO432 := n0_; have HO435 := n1_; have HB := n2_; clear n0_ n1_ n2_; clear hb ho5; obtain ⟨Ao6, co6, eo6⟩ := Kd.R_slice HO435.out; subst eo6) | ((with_reducible refine gate_dst (N := 7) rfl ?_); refine Kd.R_lit Kd.string _ 9 ?hg (N := 7) ?hd (xs := ([(⟨#[49]⟩ : ByteArray), (⟨#[95]⟩ : ByteArray)] : List ByteArray)) (inner := [.string (⟨#[49]⟩ : ByteArray), .string (⟨#[95]⟩ : ByteArray)]) (ok := fun _ => True) (okp := fun _ => True) ?hr ?hp (fun _ hk => hk) trivial (Below.refl _ _) (Nat.le_refl _) (by simp) ?_; (case hd => rfl); (case hg => rfl); (case hr => first | (go_simp; done) | (go_simp; rfl)); (case hp => exact (Reps.one (show Kd.M Kd.string _ _ _ (⟨#[49]⟩ : ByteArray) [.string (⟨#[49]⟩ : ByteArray)] from rfl) (Reps.one (show Kd.M Kd.string _ _ _ (⟨#[95]⟩ : ByteArray) [.string (⟨#[95]⟩ : ByteArray)] from rfl) (Reps.none _ _)))); intro v437 w7 ho8 hb hg_ hnew_; clear hg_ hnew_; (first | rw [← Ny436.out] at ho8 | (simp only [Int.reduceToNat] at ho8; rw [← Ny436.out] at ho8)); have n0_ := Aside0.mk (Kd.R_elder' (hR_ HO432.out) (Kd.R_base ho8) hb); have n1_ := Aside0.mk (Kd.R_elder' (hR_ HO435.out) (Kd.R_base ho8) hb); have n2_ := Aside0.mk (Kd.R_lower (Kd.R_new' (Kd.R_new' (Kd.R_newM (M := fun k_ => (w.heap.size ≤ k_)) ho8 hS_ (fun k_ h_ => h_)) (Kd.R_lt (hR_ HO432.out))) (Kd.R_lt (hR_ HO435.out))) hS_); have n3_ := Aside0.mk (below_step hB_ hb); clear HO432 HO435 HB; have HO432 := n0_; have HO435 := n1_; have HO438 := n2_; have HB := n3_; clear n0_ n1_ n2_ n3_; clear hb ho8; obtain ⟨Ao9, co9, eo9⟩ := Kd.R_slice HO438.out; subst eo9) | ((with_reducible refine gate_dst (N := 9) rfl ?_); refine Kd.N_lit k64 _ 64 ?hg (N' := 9) ?hd (xs := ([(⟨0, (-1), ([] : List ByteArray), (⟨#[57]⟩ : ByteArray)⟩ : S64), (⟨1, 0, y430, (⟨#[57]⟩ : ByteArray)⟩ : S64), (⟨2, 0, ([] : List ByteArray), (⟨#[33]⟩ : ByteArray)⟩ : S64), (⟨1, 1, y433, (⟨#[95]⟩ : ByteArray)⟩ : S64), (⟨1, 2, y436, (⟨#[95]⟩ : ByteArray)⟩ : S64)] : List (S64))) (inner := [.int .i64 0, .int .i64 (-1), .slice none 0 0, .string (⟨#[57]⟩ : ByteArray), .int .i64 1, .int .i64 0, .slice Ao3 y430.length co3, .string (⟨#[57]⟩ : ByteArray), .int .i64 2, .int .i64 0, .slice none 0 0, .string (⟨#[33]⟩ : ByteArray), .int .i64 1, .int .i64 1, .slice Ao6 y433.length co6, .string (⟨#[95]⟩ : ByteArray), .int .i64 1, .int .i64 2, .slice Ao9 y436.length co9, .string (⟨#[95]⟩ : ByteArray)]) (ok := (fun k_ => (w.heap.size ≤ k_))) (okp := (fun k_ => (w.heap.size ≤ k_))) ?hr ?hp (fun _ hk => hk) ((show ∀ k_, w7.heap.size ≤ k_ → (fun k_ => (w.heap.size ≤ k_)) k_ from fun k_ hk => (Nat.le_trans hS_ hk)) _ (Nat.le_refl _)) (Below.refl _ _) (Nat.le_refl _) (by simp) ?_; (case hd => rfl); (case hg => rfl); (case hr => first | (go_simp; done) | (go_simp; rfl)); (case hp => exact (Reps.c4 (show Kd.FK k64 _ _ (⟨0, (-1), ([] : List ByteArray), (⟨#[57]⟩ : ByteArray)⟩ : S64) [.int .i64 0, .int .i64 (-1), .slice none 0 0, .string (⟨#[57]⟩ : ByteArray)] from (k64_mkF _ _ (⟨0, (-1), ([] : List ByteArray), (⟨#[57]⟩ : ByteArray)⟩ : S64) (Nat.le_refl _) (Kd.F_nil _ _ _))) (Reps.c4 (show Kd.FK k64 _ _ (⟨1, 0, y430, (⟨#[57]⟩ : ByteArray)⟩ : S64) [.int .i64 1, .int .i64 0, .slice Ao3 y430.length co3, .string (⟨#[57]⟩ : ByteArray)] from (k64_mkF _ _ (⟨1, 0, y430, (⟨#[57]⟩ : ByteArray)⟩ : S64) (Kd.R_reads' (Kd.R_mono (ok' := (fun k_ => (w.heap.size ≤ k_))) (HO432.out) (fun k_ hk => hk.1.1.1))).2.1 (Kd.R_F (Kd.R_mono (ok' := (fun k_ => (w.heap.size ≤ k_))) (HO432.out) (fun k_ hk => hk.1.1.1))))) (Reps.c4 (show Kd.FK k64 _ _ (⟨2, 0, ([] : List ByteArray), (⟨#[33]⟩ : ByteArray)⟩ : S64) [.int .i64 2, .int .i64 0, .slice none 0 0, .string (⟨#[33]⟩ : ByteArray)] from (k64_mkF _ _ (⟨2, 0, ([] : List ByteArray), (⟨#[33]⟩ : ByteArray)⟩ : S64) (Nat.le_refl _) (Kd.F_nil _ _ _))) (Reps.c4 (show Kd.FK k64 _ _ (⟨1, 1, y433, (⟨#[95]⟩ : ByteArray)⟩ : S64) [.int .i64 1, .int .i64 1, .slice Ao6 y433.length co6, .string (⟨#[95]⟩ : ByteArray)] from (k64_mkF _ _ (⟨1, 1, y433, (⟨#[95]⟩ : ByteArray)⟩ : S64) (Kd.R_reads' (Kd.R_mono (ok' := (fun k_ => (w.heap.size ≤ k_))) (HO435.out) (fun k_ hk => hk.1.1.1))).2.1 (Kd.R_F (Kd.R_mono (ok' := (fun k_ => (w.heap.size ≤ k_))) (HO435.out) (fun k_ hk => hk.1.1.1))))) (Reps.c4 (show Kd.FK k64 _ _ (⟨1, 2, y436, (⟨#[95]⟩ : ByteArray)⟩ : S64) [.int .i64 1, .int .i64 2, .slice Ao9 y436.length co9, .string (⟨#[95]⟩ : ByteArray)] from (k64_mkF _ _ (⟨1, 2, y436, (⟨#[95]⟩ : ByteArray)⟩ : S64) (Kd.R_reads' (Kd.R_mono (ok' := (fun k_ => (w.heap.size ≤ k_))) (HO438.out) (fun k_ hk => hk.1.1.1))).2.1 (Kd.R_F (Kd.R_mono (ok' := (fun k_ => (w.heap.size ≤ k_))) (HO438.out) (fun k_ hk => hk.1.1.1))))) (Reps.none _ _))))))); intro v440 w10 ho11 hb hg_ hnew_; clear hg_ hnew_; (first | rw [← Ny439.out] at ho11 | (simp only [Int.reduceToNat] at ho11; rw [← Ny439.out] at ho11)); have n0_ := Aside0.mk (Kd.N_lower ho11 hS_); have n1_ := Aside0.mk (below_step hB_ hb); clear HB HO432 HO435 HO438; have HO441 := n0_; have HB := n1_; clear n0_ n1_; clear hb ho11))
  go_ret
  exact ⟨_, hV_, hN_ HO441.out, hC_⟩

end Go.Proofs.YtgokcaccamfgfaaGreatDoor.G
end
section
-- Laid by the session's own driver gp.py over the kit's printer. Not trusted: Lean checks it.
namespace Go.Proofs.YtgokcaccamfgfaaGreatDoor.G
open Go.RowKit Go.Proofs.YtgokcaccamfgfaaGreatDoorW.PrintWords Go.Proofs.YtgokcaccamfgfaaGreatDoorW.PrintLast Go.Proofs.YtgokcaccamfgfaaGreatDoorW.PrintMore
attribute [local go_sem] max2_int min2_int max_two min_two max_three min_three max_four min_four   -- for this text's walks alone
set_option linter.unusedVariables false
set_option linter.unusedSimpArgs false

theorem eqA34 (d : Nat) (w : World) (x0 y0 : Int) (x1 y1 : Int) :
    (Op.equalIn (d + 2) 34 (.agg #[.int .i64 x0, .int .i64 x1]) (.agg #[.int .i64 y0, .int .i64 y1])).run Tryz.prog w = .ok (x0 == y0 && (x1 == y1)) w := by
  refine eqA_of Tryz.underlying34 (by kernel_rfl) ?_
  refine eqf_cons (by rfl) (by go_simp; rfl) (by go_simp; rfl) (by go_simp) ?_
  exact eqf_last (by rfl) (by go_simp; rfl) (by go_simp; rfl) (by go_simp)
end Go.Proofs.YtgokcaccamfgfaaGreatDoor.G
end
section
-- Laid by the session's own driver gp.py over the kit's printer. Not trusted: Lean checks it.
namespace Go.Proofs.YtgokcaccamfgfaaGreatDoor.G
open Go.RowKit Go.Proofs.YtgokcaccamfgfaaGreatDoorW.PrintWords Go.Proofs.YtgokcaccamfgfaaGreatDoorW.PrintLast Go.Proofs.YtgokcaccamfgfaaGreatDoorW.PrintMore
attribute [local go_sem] max2_int min2_int max_two min_two max_three min_three max_four min_four   -- for this text's walks alone
set_option linter.unusedVariables false
set_option linter.unusedSimpArgs false

attribute [local go_sem high] eqA34
/-! ### sleuthlaw20_awake: function 16 -/
def sleuthlaw20_awake.f (k : Nat)  : Option (Bool) := (sleuthlaw20_some.f).bind fun t442 => ((some (([(⟨0, 2⟩ : S46), (⟨1, 1⟩ : S46)] : List (S46)) : List (S46))).bind fun y445 => ((next_Marks.f k t442 0 y445).bind fun bt449 => ((next_Step.f k t442 0 y445).bind fun bt453 => ((next_Step.f k t442 2 y445).bind fun bt457 => (if 0 < (y445.length : Int) then ((next_Marks.f k t442 2 (y445.set (0 : Int).toNat (⟨(rd_T46 y445 0).f0, 0⟩ : S46))).bind fun bt462 => ((sleuthlaw0_SameInts.f k bt449.1 (([2, 1, 0, 0, 0] : List Int))).bind fun t469 => (if t469 = true then ((sleuthlaw0_Num.f bt449.2).bind fun t470 => (if t470 = 0 then (if (bt453.1 == 0 && (bt453.2.1 == 2)) = true then ((sleuthlaw0_Num.f bt453.2.2).bind fun t471 => (if t471 = 0 then ((sleuthlaw0_Num.f bt457.2.2).bind fun t472 => (if t472 = 2000 then ((sleuthlaw0_Num.f bt462.2).bind fun t473 => (some (t473 == 2000))) else (none))) else (none))) else (none)) else (none))) else (none)))) else (none))))))
theorem sleuthlaw20_awake.mono : ∀ k, LeO (sleuthlaw20_awake.f k ) (sleuthlaw20_awake.f (k + 1) ) := by
  intro  k
  unfold sleuthlaw20_awake.f
  repeat' first
      | (with_reducible exact next_Marks.mono _ _ _ _)
      | (with_reducible exact next_Step.mono _ _ _ _)
      | (with_reducible exact sleuthlaw0_SameInts.mono _ _ _)
      | (with_reducible exact LeO.refl _)
      | (with_reducible exact LeO.none _)
      | (with_reducible refine LeO.ite ?_ ?_)
      | (with_reducible refine LeO.bind ?_ (fun _ => ?_))
      | exact next_Marks.mono _ _ _ _
      | exact next_Step.mono _ _ _ _
      | exact sleuthlaw0_SameInts.mono _ _ _
      | exact LeO.none _
      | refine LeO.ite ?_ ?_
      | refine LeO.bind ?_ (fun _ => ?_)
set_option maxHeartbeats 8000000 in
set_option maxRecDepth 100000 in
theorem sleuthlaw20_awake.calls (k : Nat)  (r : Bool) (w : World) (h : sleuthlaw20_awake.f k  = some r) (hG : GOK w) :
    Calls Tryz.prog 16 #[] w fun e w' => e = .returned (.bool r) ∧ Below w.heap.size w w' := by
  have hu46 := Tryz.underlying46
  have hu25 := Tryz.underlying25
  have hu34 := Tryz.underlying34
  have HB := Aside0.mk (Below.refl w.heap.size w)
  have H : ((sleuthlaw20_some.f).bind fun t442 => ((some (([(⟨0, 2⟩ : S46), (⟨1, 1⟩ : S46)] : List (S46)) : List (S46))).bind fun y445 => ((next_Marks.f k t442 0 y445).bind fun bt449 => ((next_Step.f k t442 0 y445).bind fun bt453 => ((next_Step.f k t442 2 y445).bind fun bt457 => (if 0 < (y445.length : Int) then ((next_Marks.f k t442 2 (y445.set (0 : Int).toNat (⟨(rd_T46 y445 0).f0, 0⟩ : S46))).bind fun bt462 => ((sleuthlaw0_SameInts.f k bt449.1 (([2, 1, 0, 0, 0] : List Int))).bind fun t469 => (if t469 = true then ((sleuthlaw0_Num.f bt449.2).bind fun t470 => (if t470 = 0 then (if (bt453.1 == 0 && (bt453.2.1 == 2)) = true then ((sleuthlaw0_Num.f bt453.2.2).bind fun t471 => (if t471 = 0 then ((sleuthlaw0_Num.f bt457.2.2).bind fun t472 => (if t472 = 2000 then ((sleuthlaw0_Num.f bt462.2).bind fun t473 => (some (t473 == 2000))) else (none))) else (none))) else (none)) else (none))) else (none)))) else (none))))))) = some r := h
  clear h
  replace H := Option.bind_eq_some_iff.mp H
  obtain ⟨t442, A10, H⟩ := H
  replace H : ((some (([(⟨0, 2⟩ : S46), (⟨1, 1⟩ : S46)] : List (S46)) : List (S46))).bind fun y445 => ((next_Marks.f k t442 0 y445).bind fun bt449 => ((next_Step.f k t442 0 y445).bind fun bt453 => ((next_Step.f k t442 2 y445).bind fun bt457 => (if 0 < (y445.length : Int) then ((next_Marks.f k t442 2 (y445.set (0 : Int).toNat (⟨(rd_T46 y445 0).f0, 0⟩ : S46))).bind fun bt462 => ((sleuthlaw0_SameInts.f k bt449.1 (([2, 1, 0, 0, 0] : List Int))).bind fun t469 => (if t469 = true then ((sleuthlaw0_Num.f bt449.2).bind fun t470 => (if t470 = 0 then (if (bt453.1 == 0 && (bt453.2.1 == 2)) = true then ((sleuthlaw0_Num.f bt453.2.2).bind fun t471 => (if t471 = 0 then ((sleuthlaw0_Num.f bt457.2.2).bind fun t472 => (if t472 = 2000 then ((sleuthlaw0_Num.f bt462.2).bind fun t473 => (some (t473 == 2000))) else (none))) else (none))) else (none)) else (none))) else (none)))) else (none)))))) = some r := H
  have A1 := Aside0.mk A10
  clear A10
  obtain ⟨y445, hy445⟩ : ∃ y_ : List (S46), y_ = (([(⟨0, 2⟩ : S46), (⟨1, 1⟩ : S46)] : List (S46))) := ⟨_, rfl⟩
  replace H : ((next_Marks.f k t442 0 y445).bind fun bt449 => ((next_Step.f k t442 0 y445).bind fun bt453 => ((next_Step.f k t442 2 y445).bind fun bt457 => (if 0 < (y445.length : Int) then ((next_Marks.f k t442 2 (y445.set (0 : Int).toNat (⟨(rd_T46 y445 0).f0, 0⟩ : S46))).bind fun bt462 => ((sleuthlaw0_SameInts.f k bt449.1 (([2, 1, 0, 0, 0] : List Int))).bind fun t469 => (if t469 = true then ((sleuthlaw0_Num.f bt449.2).bind fun t470 => (if t470 = 0 then (if (bt453.1 == 0 && (bt453.2.1 == 2)) = true then ((sleuthlaw0_Num.f bt453.2.2).bind fun t471 => (if t471 = 0 then ((sleuthlaw0_Num.f bt457.2.2).bind fun t472 => (if t472 = 2000 then ((sleuthlaw0_Num.f bt462.2).bind fun t473 => (some (t473 == 2000))) else (none))) else (none))) else (none)) else (none))) else (none)))) else (none))))) = some r := by first | (rw [hy445]; with_reducible exact H) | (have H2_ := (Option.bind_some _ _).symm.trans H; rw [hy445]; with_reducible exact H2_) | (have H2_ := (Option.bind_some _ _).symm.trans H; with_reducible exact H2_) | with_reducible exact H | (rw [hy445]; exact H) | exact H
  have Ny445 := Aside0.mk hy445
  clear hy445
  replace H := Option.bind_eq_some_iff.mp H
  obtain ⟨⟨t449, t452⟩, A20, H⟩ := H
  replace H : ((next_Step.f k t442 0 y445).bind fun bt453 => ((next_Step.f k t442 2 y445).bind fun bt457 => (if 0 < (y445.length : Int) then ((next_Marks.f k t442 2 (y445.set (0 : Int).toNat (⟨(rd_T46 y445 0).f0, 0⟩ : S46))).bind fun bt462 => ((sleuthlaw0_SameInts.f k t449 (([2, 1, 0, 0, 0] : List Int))).bind fun t469 => (if t469 = true then ((sleuthlaw0_Num.f t452).bind fun t470 => (if t470 = 0 then (if (bt453.1 == 0 && (bt453.2.1 == 2)) = true then ((sleuthlaw0_Num.f bt453.2.2).bind fun t471 => (if t471 = 0 then ((sleuthlaw0_Num.f bt457.2.2).bind fun t472 => (if t472 = 2000 then ((sleuthlaw0_Num.f bt462.2).bind fun t473 => (some (t473 == 2000))) else (none))) else (none))) else (none)) else (none))) else (none)))) else (none)))) = some r := H
  have A2 := Aside0.mk A20
  clear A20
  replace H := Option.bind_eq_some_iff.mp H
  obtain ⟨⟨t453, t454, t455⟩, A30, H⟩ := H
  replace H : ((next_Step.f k t442 2 y445).bind fun bt457 => (if 0 < (y445.length : Int) then ((next_Marks.f k t442 2 (y445.set (0 : Int).toNat (⟨(rd_T46 y445 0).f0, 0⟩ : S46))).bind fun bt462 => ((sleuthlaw0_SameInts.f k t449 (([2, 1, 0, 0, 0] : List Int))).bind fun t469 => (if t469 = true then ((sleuthlaw0_Num.f t452).bind fun t470 => (if t470 = 0 then (if (t453 == 0 && (t454 == 2)) = true then ((sleuthlaw0_Num.f t455).bind fun t471 => (if t471 = 0 then ((sleuthlaw0_Num.f bt457.2.2).bind fun t472 => (if t472 = 2000 then ((sleuthlaw0_Num.f bt462.2).bind fun t473 => (some (t473 == 2000))) else (none))) else (none))) else (none)) else (none))) else (none)))) else (none))) = some r := H
  have A3 := Aside0.mk A30
  clear A30
  replace H := Option.bind_eq_some_iff.mp H
  obtain ⟨⟨t457, t458, t459⟩, A40, H⟩ := H
  replace H : (if 0 < (y445.length : Int) then ((next_Marks.f k t442 2 (y445.set (0 : Int).toNat (⟨(rd_T46 y445 0).f0, 0⟩ : S46))).bind fun bt462 => ((sleuthlaw0_SameInts.f k t449 (([2, 1, 0, 0, 0] : List Int))).bind fun t469 => (if t469 = true then ((sleuthlaw0_Num.f t452).bind fun t470 => (if t470 = 0 then (if (t453 == 0 && (t454 == 2)) = true then ((sleuthlaw0_Num.f t455).bind fun t471 => (if t471 = 0 then ((sleuthlaw0_Num.f t459).bind fun t472 => (if t472 = 2000 then ((sleuthlaw0_Num.f bt462.2).bind fun t473 => (some (t473 == 2000))) else (none))) else (none))) else (none)) else (none))) else (none)))) else (none)) = some r := H
  have A4 := Aside0.mk A40
  clear A40
  replace H := ifI_ H; obtain ⟨c5, H⟩ := H
  have c5b0 : decide (0 < (y445.length : Int)) = true := decide_eq_true c5
  have c5b1 : decide (0 < y445.length) = true := decide_eq_true (by omega)
  clear c5
  obtain ⟨y461, hy461⟩ : ∃ y_ : List (S46), y_ = (y445.set (0 : Int).toNat (⟨(rd_T46 y445 0).f0, 0⟩ : S46)) := ⟨_, rfl⟩
  replace H : ((next_Marks.f k t442 2 y461).bind fun bt462 => ((sleuthlaw0_SameInts.f k t449 (([2, 1, 0, 0, 0] : List Int))).bind fun t469 => (if t469 = true then ((sleuthlaw0_Num.f t452).bind fun t470 => (if t470 = 0 then (if (t453 == 0 && (t454 == 2)) = true then ((sleuthlaw0_Num.f t455).bind fun t471 => (if t471 = 0 then ((sleuthlaw0_Num.f t459).bind fun t472 => (if t472 = 2000 then ((sleuthlaw0_Num.f bt462.2).bind fun t473 => (some (t473 == 2000))) else (none))) else (none))) else (none)) else (none))) else (none)))) = some r := by first | (rw [hy461]; with_reducible exact H) | (have H2_ := (Option.bind_some _ _).symm.trans H; rw [hy461]; with_reducible exact H2_) | (have H2_ := (Option.bind_some _ _).symm.trans H; with_reducible exact H2_) | with_reducible exact H | (rw [hy461]; exact H) | exact H
  have Ny461 := Aside0.mk hy461
  clear hy461
  replace H := Option.bind_eq_some_iff.mp H
  obtain ⟨⟨t462, t465⟩, A70, H⟩ := H
  replace H : ((sleuthlaw0_SameInts.f k t449 (([2, 1, 0, 0, 0] : List Int))).bind fun t469 => (if t469 = true then ((sleuthlaw0_Num.f t452).bind fun t470 => (if t470 = 0 then (if (t453 == 0 && (t454 == 2)) = true then ((sleuthlaw0_Num.f t455).bind fun t471 => (if t471 = 0 then ((sleuthlaw0_Num.f t459).bind fun t472 => (if t472 = 2000 then ((sleuthlaw0_Num.f t465).bind fun t473 => (some (t473 == 2000))) else (none))) else (none))) else (none)) else (none))) else (none))) = some r := H
  have A7 := Aside0.mk A70
  clear A70
  obtain ⟨y466, hy466⟩ : ∃ y_ : List Int, y_ = (([2, 1, 0, 0, 0] : List Int)) := ⟨_, rfl⟩
  replace H : ((sleuthlaw0_SameInts.f k t449 y466).bind fun t469 => (if t469 = true then ((sleuthlaw0_Num.f t452).bind fun t470 => (if t470 = 0 then (if (t453 == 0 && (t454 == 2)) = true then ((sleuthlaw0_Num.f t455).bind fun t471 => (if t471 = 0 then ((sleuthlaw0_Num.f t459).bind fun t472 => (if t472 = 2000 then ((sleuthlaw0_Num.f t465).bind fun t473 => (some (t473 == 2000))) else (none))) else (none))) else (none)) else (none))) else (none))) = some r := by first | (rw [hy466]; with_reducible exact H) | (have H2_ := (Option.bind_some _ _).symm.trans H; rw [hy466]; with_reducible exact H2_) | (have H2_ := (Option.bind_some _ _).symm.trans H; with_reducible exact H2_) | with_reducible exact H | (rw [hy466]; exact H) | exact H
  have Ny466 := Aside0.mk hy466
  clear hy466
  replace H := Option.bind_eq_some_iff.mp H
  obtain ⟨t469, A80, H⟩ := H
  replace H : (if t469 = true then ((sleuthlaw0_Num.f t452).bind fun t470 => (if t470 = 0 then (if (t453 == 0 && (t454 == 2)) = true then ((sleuthlaw0_Num.f t455).bind fun t471 => (if t471 = 0 then ((sleuthlaw0_Num.f t459).bind fun t472 => (if t472 = 2000 then ((sleuthlaw0_Num.f t465).bind fun t473 => (some (t473 == 2000))) else (none))) else (none))) else (none)) else (none))) else (none)) = some r := H
  have A8 := Aside0.mk A80
  clear A80
  by_cases c9 : t469 = true
  case neg =>
    replace c9 := Bool.eq_false_iff.mpr c9
    subst c9
    have H1 : (none) = some r := by rw [if_neg (show ¬ (false = true) by decide)] at H; exact H
    clear H
    have H := H1
    clear H1
    cases H
  subst c9
  have H1 : ((sleuthlaw0_Num.f t452).bind fun t470 => (if t470 = 0 then (if (t453 == 0 && (t454 == 2)) = true then ((sleuthlaw0_Num.f t455).bind fun t471 => (if t471 = 0 then ((sleuthlaw0_Num.f t459).bind fun t472 => (if t472 = 2000 then ((sleuthlaw0_Num.f t465).bind fun t473 => (some (t473 == 2000))) else (none))) else (none))) else (none)) else (none))) = some r := by rw [if_pos rfl] at H; exact H
  clear H
  have H := H1
  clear H1
  replace H := Option.bind_eq_some_iff.mp H
  obtain ⟨t470, A100, H⟩ := H
  replace H : (if t470 = 0 then (if (t453 == 0 && (t454 == 2)) = true then ((sleuthlaw0_Num.f t455).bind fun t471 => (if t471 = 0 then ((sleuthlaw0_Num.f t459).bind fun t472 => (if t472 = 2000 then ((sleuthlaw0_Num.f t465).bind fun t473 => (some (t473 == 2000))) else (none))) else (none))) else (none)) else (none)) = some r := H
  have A10 := Aside0.mk A100
  clear A100
  by_cases c11 : t470 = 0
  case neg =>
    rw [if_neg c11] at H
    have c11b0 : (t470 == 0) = false := beq_eq_false_iff_ne.mpr c11
    have c11b1 : (t470 != 0) = true := bne_iff_ne.mpr c11
    cases H
  rw [if_pos c11] at H
  have c11b0 : (t470 == 0) = true := beq_iff_eq.mpr c11
  have c11b1 : (t470 != 0) = false := bne_eq_false_iff_eq.mpr c11
  clear c11
  by_cases c12 : (t453 == 0 && (t454 == 2)) = true
  case neg =>
    rw [if_neg c12] at H
    have c12b0 : (t453 == 0 && (t454 == 2)) = false := by simpa using c12
    (try (have c12b1 : decide (t453 = 0 && (t454 == 2)) = false := by simpa using c12))
    (try (have c12b2 : (t453 == 0 && (t454 == 2)) = false := by simpa using c12))
    (try (have c12b3 : ¬ (t453 = 0 && (t454 == 2)) := by simpa using c12))
    clear c12
    cases H
  rw [if_pos c12] at H
  have c12b0 : (t453 == 0 && (t454 == 2)) = true := c12
  (try (have c12b1 : decide (t453 = 0 && (t454 == 2)) = true := by simpa using c12))
  (try (have c12b2 : (t453 == 0 && (t454 == 2)) = true := by simpa using c12))
  clear c12
  replace H := Option.bind_eq_some_iff.mp H
  obtain ⟨t471, A130, H⟩ := H
  replace H : (if t471 = 0 then ((sleuthlaw0_Num.f t459).bind fun t472 => (if t472 = 2000 then ((sleuthlaw0_Num.f t465).bind fun t473 => (some (t473 == 2000))) else (none))) else (none)) = some r := H
  have A13 := Aside0.mk A130
  clear A130
  by_cases c14 : t471 = 0
  case neg =>
    rw [if_neg c14] at H
    have c14b0 : (t471 == 0) = false := beq_eq_false_iff_ne.mpr c14
    have c14b1 : (t471 != 0) = true := bne_iff_ne.mpr c14
    cases H
  rw [if_pos c14] at H
  have c14b0 : (t471 == 0) = true := beq_iff_eq.mpr c14
  have c14b1 : (t471 != 0) = false := bne_eq_false_iff_eq.mpr c14
  clear c14
  replace H := Option.bind_eq_some_iff.mp H
  obtain ⟨t472, A150, H⟩ := H
  replace H : (if t472 = 2000 then ((sleuthlaw0_Num.f t465).bind fun t473 => (some (t473 == 2000))) else (none)) = some r := H
  have A15 := Aside0.mk A150
  clear A150
  by_cases c16 : t472 = 2000
  case neg =>
    rw [if_neg c16] at H
    have c16b0 : (t472 == 2000) = false := beq_eq_false_iff_ne.mpr c16
    have c16b1 : (t472 != 2000) = true := bne_iff_ne.mpr c16
    cases H
  rw [if_pos c16] at H
  have c16b0 : (t472 == 2000) = true := beq_iff_eq.mpr c16
  have c16b1 : (t472 != 2000) = false := bne_eq_false_iff_eq.mpr c16
  clear c16
  replace H := Option.bind_eq_some_iff.mp H
  obtain ⟨t473, A170, H⟩ := H
  replace H : (some (t473 == 2000)) = some r := H
  have A17 := Aside0.mk A170
  clear A170
  obtain rfl := Option.some.inj H
  go_enter Tryz.func16, Tryz.ntmps16
  go_wp2_with (first | ((with_reducible refine gate_callee (f := 17) rfl ?_); refine goesL_ (some 10) rfl rfl Tryz.func17 (by kernel_rfl) rfl #[] rfl hL_ ?_; (with_reducible refine (sleuthlaw20_some.calls  t442 _ A1.out).mono ?_); rintro e w18 ⟨v443, rfl, ho0, hb⟩; refine ⟨_, rfl, ?_⟩; have n0_ := Aside0.mk (Kd.N_lower (Kd.N_mono (ok' := fun k_ => True) ho0 (fun k_ hk_ => trivial)) hS_); have n1_ := Aside0.mk (below_step hB_ hb); clear HB; have HO444 := n0_; have HB := n1_; clear n0_ n1_; (try clear hb); (try clear hb2); (try clear hk); (try clear hi); (try clear ho0)) | ((with_reducible refine gate_dst (N := 13) rfl ?_); refine Kd.R_lit k46 _ 46 ?hg (N := 13) ?hd (xs := ([(⟨0, 2⟩ : S46), (⟨1, 1⟩ : S46)] : List (S46))) (inner := [.int .i64 0, .int .i64 2, .int .i64 1, .int .i64 1]) (ok := fun _ => True) (okp := fun _ => True) ?hr ?hp (fun _ hk => hk) trivial (Below.refl _ _) (Nat.le_refl _) (by simp) ?_; (case hd => rfl); (case hg => rfl); (case hr => first | (go_simp; done) | (go_simp; rfl)); (case hp => exact (Reps.c2 (show Kd.M k46 _ _ _ (⟨0, 2⟩ : S46) [.int .i64 0, .int .i64 2] from (k46_mkM _ _ _ (⟨0, 2⟩ : S46) )) (Reps.c2 (show Kd.M k46 _ _ _ (⟨1, 1⟩ : S46) [.int .i64 1, .int .i64 1] from (k46_mkM _ _ _ (⟨1, 1⟩ : S46) )) (Reps.none _ _)))); intro v446 w19 ho20 hb hg_ hnew_; clear hg_ hnew_; (first | rw [← Ny445.out] at ho20 | (simp only [Int.reduceToNat] at ho20; rw [← Ny445.out] at ho20)); have n0_ := Aside0.mk (Kd.N_elder' (hN_ HO444.out) (Kd.R_base ho20) hb); have n1_ := Aside0.mk (Kd.R_lower ho20 hS_); have n2_ := Aside0.mk (below_step hB_ hb); clear HO444 HB; have HO444 := n0_; have HO447 := n1_; have HB := n2_; clear n0_ n1_ n2_; clear hb ho20; obtain ⟨Ao21, co21, eo21⟩ := Kd.R_slice HO447.out; subst eo21; obtain ⟨Ao22, co22, eo22⟩ := Kd.N_slice HO444.out; subst eo22) | ((with_reducible refine gate_dst (N := 1) rfl ?_); refine boxE_ 1 #[.slice none 0 0, .int .i64 0, .slice none 0 0] 25 ?_; intro gb448 hg w23 hbox hb; have n0_ := Aside0.mk (Kd.N_below (Kd.N_elderB (hN_ HO444.out) gb448 (Nat.le_of_eq hg.symm)) hb); have n1_ := Aside0.mk (Kd.R_below (hR_ HO447.out) hb); have n2_ := Aside0.mk (below_step hB_ hb); have n3_ := Aside0.mk (hbox); have n4_ := Aside0.mk ((gE_ hg : w.heap.size ≤ gb448)); have n5_ := Aside0.mk ((gE_ hg : w.heap.size ≤ gb448)); clear HO444 HO447 HB; have HO444 := n0_; have HO447 := n1_; have HB := n2_; have BK448 := n3_; have GW448 := n4_; have GE448 := n5_; clear n0_ n1_ n2_ n3_ n4_ n5_; clear hb hbox hg; obtain ⟨hcz24_0, hcz24_1, hcz24_2, hfz24_0, hfz24_1, hfz24_2⟩ := bx3_ BK448.out) | ((with_reducible refine gate_callee (f := 8) rfl ?_); refine goesL_ (some 17) rfl rfl Tryz.func8 (by kernel_rfl) rfl #[.agg #[.slice Ao22 t442.length co22, .int .i64 0, .slice Ao21 y445.length co21]] rfl hL_ ?_; (with_reducible refine (next_Marks.calls k _ _ t442 0 _ _ y445 t449 t452 _ ?side1 ?side2 ?side3 ?side4 A2.out (by first | exact hG | exact GOK.below hG hC_)).mono ?_); (case side1 => refine (Kd.N_reads' (e := 64) (base := w.heap.size) (ok := fun k_ => ((True ∧ some k_ ≠ (.slice Ao21 y445.length co21 : Value).ownBlock) ∧ k_ ≠ gb448)) (n := t442.length) (c := co22) ?_).2.2; exact (by (with_reducible repeat (first | apply Kd.N_alloc | apply Kd.N_drewN | apply Kd.N_drew)); exact (Kd.N_mono (nF_ (nF_ (nF_ (Kd.N_mono HO444.out (fun k_ hk => (⟨hk, hk.2⟩ : _ ∧ k_ ≠ gb448)))))) (fun _ h_ => h_.1)))); (case side2 => exact (Kd.N_reads' HO444.out).2.1); (case side3 => refine (Kd.R_reads' (e := 46) (base := w.heap.size) (ok := fun k_ => True) (n := y445.length) (c := co21) ?_).2.2; exact (by (with_reducible repeat (first | apply Kd.R_alloc | apply Kd.R_drewN | apply Kd.R_drew)); exact (Kd.R_mono (rF_ (rF_ (rF_ (Kd.R_types HO447.out BK448.out (by decide))))) (fun _ h_ => h_.1)))); (case side4 => exact (Kd.R_reads' HO447.out).2.1); rintro e w25 ⟨v450, rfl, ho0, hb⟩; refine ⟨_, rfl, ?_⟩; have n0_ := Aside0.mk (Kd.N_elder' (by (with_reducible repeat (first | apply Kd.N_alloc | apply Kd.N_drewN | apply Kd.N_drew)); exact (Kd.N_mono (nF_ (nF_ (nF_ (Kd.N_mono HO444.out (fun k_ hk => (⟨hk, hk.2⟩ : _ ∧ k_ ≠ gb448)))))) (fun _ h_ => h_.1))) (Kd.R_base ho0) hb); have n1_ := Aside0.mk (Kd.R_below (by (with_reducible repeat (first | apply Kd.R_alloc | apply Kd.R_drewN | apply Kd.R_drew)); exact (Kd.R_mono (rF_ (rF_ (rF_ (Kd.R_types HO447.out BK448.out (by decide))))) (fun _ h_ => h_.1))) hb); have n2_ := Aside0.mk (Kd.R_lower ho0 (below_size hC_)); have n3_ := Aside0.mk (blk_below (g := gb448) (o := .cells #[.slice Ao22 t442.length co22, .int .i64 0, .slice Ao21 y445.length co21] 25 (0, 0)) (bP_ (bP_ (bP_ (hK_ BK448.out)))) hb); have n4_ := Aside0.mk (below_step hC_ hb); clear HO444 HO447 BK448 HB; have HO444 := n0_; have HO447 := n1_; have HO451 := n2_; have BK448 := n3_; have HB := n4_; clear n0_ n1_ n2_ n3_ n4_; (try clear hb); (try clear hb2); (try clear hk); (try clear hi); (try clear ho0); obtain ⟨hcz26_0, hcz26_1, hcz26_2, hfz26_0, hfz26_1, hfz26_2⟩ := bx3_ BK448.out) | ((with_reducible refine gate_callee (f := 10) rfl ?_); refine goesL_ (some 22) rfl rfl Tryz.func10 (by kernel_rfl) rfl #[.agg #[.slice Ao22 t442.length co22, .int .i64 0, .slice Ao21 y445.length co21]] rfl hL_ ?_; (with_reducible refine (next_Step.calls k _ _ t442 0 _ _ y445 t453 t454 t455 _ ?side1 ?side2 ?side3 ?side4 A3.out (by first | exact hG | exact GOK.below hG hC_)).mono ?_); (case side1 => repeat (first | exact (Kd.N_reads' HO444.out).2.2 | (with_reducible refine Kd.C_alloc ?_ _) | (with_reducible refine Kd.C_drewN ?_ _) | (with_reducible refine Kd.C_drew ?_))); (case side2 => exact (Kd.N_reads' HO444.out).2.1); (case side3 => exact cC_ (Kd.R_reads' HO447.out).2.2); (case side4 => exact (Kd.R_reads' HO447.out).2.1); rintro e w27 ⟨rfl, hb⟩; refine ⟨_, rfl, ?_⟩; have n0_ := Aside0.mk (Kd.N_below (hN_ HO444.out) hb); have n1_ := Aside0.mk (Kd.R_below (hR_ HO447.out) hb); have n2_ := Aside0.mk (Kd.R_below (hR_ HO451.out) hb); have n3_ := Aside0.mk (bB_ BK448.out hb); have n4_ := Aside0.mk (below_step hC_ hb); clear HO444 HO447 HO451 BK448 HB; have HO444 := n0_; have HO447 := n1_; have HO451 := n2_; have BK448 := n3_; have HB := n4_; clear n0_ n1_ n2_ n3_ n4_; (try clear hb); (try clear hb2); (try clear hk); (try clear hi)) | ((with_reducible refine gate_dst (N := 4) rfl ?_); refine boxE_ 4 #[.int .i64 0, .int .i64 0] 34 ?_; intro gb456 hg w28 hbox hb; have n0_ := Aside0.mk (Kd.N_below (Kd.N_elderB (hN_ HO444.out) gb456 (Nat.le_of_eq hg.symm)) hb); have n1_ := Aside0.mk (Kd.R_below (hR_ HO447.out) hb); have n2_ := Aside0.mk (Kd.R_below (hR_ HO451.out) hb); have n3_ := Aside0.mk (bB_ BK448.out hb); have n4_ := Aside0.mk (below_step hC_ hb); have n5_ := Aside0.mk (hbox); have n6_ := Aside0.mk ((gE_ hg : w.heap.size ≤ gb456)); have n7_ := Aside0.mk ((gE_ hg : w.heap.size ≤ gb456)); have n8_ := Aside0.mk ((bL_ BK448.out hg : gb448 ≠ gb456)); have n9_ := Aside0.mk ((bG_ BK448.out hg : gb456 ≠ gb448)); clear HO444 HO447 HO451 BK448 HB; have HO444 := n0_; have HO447 := n1_; have HO451 := n2_; have BK448 := n3_; have HB := n4_; have BK456 := n5_; have GW456 := n6_; have GE456 := n7_; have NB448_456 := n8_; have NB456_448 := n9_; clear n0_ n1_ n2_ n3_ n4_ n5_ n6_ n7_ n8_ n9_; clear hb hbox hg; have hnb29 := NB456_448.out; have hnc29 := NB448_456.out; obtain ⟨hcz30_0, hcz30_1, hfz30_0, hfz30_1⟩ := bx2_ BK456.out; obtain ⟨hcz31_0, hcz31_1, hcz31_2, hfz31_0, hfz31_1, hfz31_2⟩ := bx3_ BK448.out) | ((with_reducible refine gate_callee (f := 10) rfl ?_); refine goesL_ (some 28) rfl rfl Tryz.func10 (by kernel_rfl) rfl #[.agg #[.slice Ao22 t442.length co22, .int .i64 2, .slice Ao21 y445.length co21]] rfl hL_ ?_; (with_reducible refine (next_Step.calls k _ _ t442 2 _ _ y445 t457 t458 t459 _ ?side1 ?side2 ?side3 ?side4 A4.out (by first | exact hG | exact GOK.below hG hC_)).mono ?_); (case side1 => refine (Kd.N_reads' (e := 64) (base := w.heap.size) (ok := fun k_ => ((((True ∧ some k_ ≠ (.slice Ao21 y445.length co21 : Value).ownBlock) ∧ k_ ≠ gb448) ∧ some k_ ≠ (v450 : Value).ownBlock) ∧ k_ ≠ gb456)) (n := t442.length) (c := co22) ?_).2.2; exact (by (with_reducible repeat (first | apply Kd.N_alloc | apply Kd.N_drewN | apply Kd.N_drew)); exact (Kd.N_mono (Kd.N_mono (nF_ (Kd.N_far (p := ⟨gb456, 1, none⟩) (Kd.N_far (p := ⟨gb456, 0, none⟩) (Kd.N_mono (Kd.N_mono HO444.out (fun k_ hk => (⟨hk, hk.2⟩ : _ ∧ k_ ≠ gb456))) (fun k_ hk => (⟨hk, hk.1.1.1.2⟩ : _ ∧ k_ ≠ gb448))) (fun _ hk => hk.1.2) (.int .i64 t453)) (fun _ hk => hk.1.2) (.int .i64 t454))) (fun _ h_ => h_.1)) (fun _ h_ => h_.1)))); (case side2 => exact (Kd.N_reads' HO444.out).2.1); (case side3 => refine (Kd.R_reads' (e := 46) (base := w.heap.size) (ok := fun k_ => True) (n := y445.length) (c := co21) ?_).2.2; exact (by (with_reducible repeat (first | apply Kd.R_alloc | apply Kd.R_drewN | apply Kd.R_drew)); exact (Kd.R_mono (Kd.R_mono (rF_ (Kd.R_far (p := ⟨gb456, 1, none⟩) (Kd.R_far (p := ⟨gb456, 0, none⟩) (Kd.R_types (Kd.R_types HO447.out BK456.out (by decide)) BK448.out (by decide)) (fun _ hk => hk.1.2) (.int .i64 t453)) (fun _ hk => hk.1.2) (.int .i64 t454))) (fun _ h_ => h_.1)) (fun _ h_ => h_.1)))); (case side4 => exact (Kd.R_reads' HO447.out).2.1); rintro e w32 ⟨rfl, hb⟩; refine ⟨_, rfl, ?_⟩; have n0_ := Aside0.mk (Kd.N_below (by (with_reducible repeat (first | apply Kd.N_alloc | apply Kd.N_drewN | apply Kd.N_drew)); exact (Kd.N_mono (Kd.N_mono (nF_ (Kd.N_far (p := ⟨gb456, 1, none⟩) (Kd.N_far (p := ⟨gb456, 0, none⟩) (Kd.N_mono (Kd.N_mono HO444.out (fun k_ hk => (⟨hk, hk.2⟩ : _ ∧ k_ ≠ gb456))) (fun k_ hk => (⟨hk, hk.1.1.1.2⟩ : _ ∧ k_ ≠ gb448))) (fun _ hk => hk.1.2) (.int .i64 t453)) (fun _ hk => hk.1.2) (.int .i64 t454))) (fun _ h_ => h_.1)) (fun _ h_ => h_.1))) hb); have n1_ := Aside0.mk (Kd.R_below (by (with_reducible repeat (first | apply Kd.R_alloc | apply Kd.R_drewN | apply Kd.R_drew)); exact (Kd.R_mono (Kd.R_mono (rF_ (Kd.R_far (p := ⟨gb456, 1, none⟩) (Kd.R_far (p := ⟨gb456, 0, none⟩) (Kd.R_types (Kd.R_types HO447.out BK456.out (by decide)) BK448.out (by decide)) (fun _ hk => hk.1.2) (.int .i64 t453)) (fun _ hk => hk.1.2) (.int .i64 t454))) (fun _ h_ => h_.1)) (fun _ h_ => h_.1))) hb); have n2_ := Aside0.mk (Kd.R_below (by (with_reducible repeat (first | apply Kd.R_alloc | apply Kd.R_drewN | apply Kd.R_drew)); exact (Kd.R_mono (Kd.R_mono (rF_ (Kd.R_far (p := ⟨gb456, 1, none⟩) (Kd.R_far (p := ⟨gb456, 0, none⟩) (Kd.R_types (Kd.R_types HO451.out BK456.out (by decide)) BK448.out (by decide)) (fun _ hk => hk.1.2) (.int .i64 t453)) (fun _ hk => hk.1.2) (.int .i64 t454))) (fun _ h_ => h_.1)) (fun _ h_ => h_.1))) hb); have n3_ := Aside0.mk (blk_below (g := gb448) (o := .cells #[.slice Ao22 t442.length co22, .int .i64 2, .slice Ao21 y445.length co21] 25 (0, 0)) (bP_ (bF_ (bF_ (hK_ BK448.out) NB448_456.out) NB448_456.out)) hb); have n4_ := Aside0.mk (blk_below (g := gb456) (o := .cells #[.int .i64 t453, .int .i64 t454] 34 (0, 0)) (bF_ (bP_ (bP_ (hK_ BK456.out))) NB456_448.out) hb); have n5_ := Aside0.mk (below_step hC_ hb); clear HO444 HO447 HO451 BK448 BK456 HB; have HO444 := n0_; have HO447 := n1_; have HO451 := n2_; have BK448 := n3_; have BK456 := n4_; have HB := n5_; clear n0_ n1_ n2_ n3_ n4_ n5_; (try clear hb); (try clear hb2); (try clear hk); (try clear hi)) | ((with_reducible refine gate_dst (N := 6) rfl ?_); refine boxE_ 6 #[.int .i64 0, .int .i64 0] 34 ?_; intro gb460 hg w33 hbox hb; have n0_ := Aside0.mk (Kd.N_below (Kd.N_elderB (hN_ HO444.out) gb460 (Nat.le_of_eq hg.symm)) hb); have n1_ := Aside0.mk (Kd.R_below (hR_ HO447.out) hb); have n2_ := Aside0.mk (Kd.R_below (hR_ HO451.out) hb); have n3_ := Aside0.mk (bB_ BK448.out hb); have n4_ := Aside0.mk (bB_ BK456.out hb); have n5_ := Aside0.mk (below_step hC_ hb); have n6_ := Aside0.mk (hbox); have n7_ := Aside0.mk ((gE_ hg : w.heap.size ≤ gb460)); have n8_ := Aside0.mk ((gE_ hg : w.heap.size ≤ gb460)); have n9_ := Aside0.mk ((bL_ BK448.out hg : gb448 ≠ gb460)); have n10_ := Aside0.mk ((bG_ BK448.out hg : gb460 ≠ gb448)); have n11_ := Aside0.mk ((bL_ BK456.out hg : gb456 ≠ gb460)); have n12_ := Aside0.mk ((bG_ BK456.out hg : gb460 ≠ gb456)); clear HO444 HO447 HO451 BK448 BK456 HB; have HO444 := n0_; have HO447 := n1_; have HO451 := n2_; have BK448 := n3_; have BK456 := n4_; have HB := n5_; have BK460 := n6_; have GW460 := n7_; have GE460 := n8_; have NB448_460 := n9_; have NB460_448 := n10_; have NB456_460 := n11_; have NB460_456 := n12_; clear n0_ n1_ n2_ n3_ n4_ n5_ n6_ n7_ n8_ n9_ n10_ n11_ n12_; clear hb hbox hg; have hnb34 := NB460_448.out; have hnc34 := NB448_460.out; have hnb35 := NB460_456.out; have hnc35 := NB456_460.out; obtain ⟨hcz36_0, hcz36_1, hfz36_0, hfz36_1⟩ := bx2_ BK460.out) | ((with_reducible refine gate_store (t := 34) (p := 6) rfl ?_); refine store_event (t := 34) (p := 6) (v := ?vo_w37) (w1 := ((w33.setCell ⟨gb460, 0, none⟩ (.int .i64 t457)).setCell ⟨gb460, 1, none⟩ (.int .i64 t458))) ?hg ?ho ?hn ?hr ?_; (case ho => rfl); (case hg => rfl); (case hn => rfl); (case hr => first | (go_simp; done) | (go_simp; rfl)); intro w37 hw; have n0_ : Aside0 (Kd.N k64 64 w37 w.heap.size (fun k_ => some k_ ≠ (.slice Ao21 y445.length co21 : Value).ownBlock ∧ some k_ ≠ (v450 : Value).ownBlock ∧ k_ ≠ gb448 ∧ k_ ≠ gb456 ∧ k_ ≠ gb460) (.slice Ao22 t442.length co22) t442) := ⟨(by rw [hw]; exact (by (with_reducible repeat (first | apply Kd.N_alloc | apply Kd.N_drewN | apply Kd.N_drew)); exact Kd.N_mono (nF_ (nF_ (Kd.N_mono HO444.out (fun k_ hk => (⟨hk, hk.2⟩ : _ ∧ k_ ≠ gb460))))) (fun _ hk => ⟨hk.1.1.1.1.1.2, ⟨hk.1.1.1.2, ⟨hk.1.1.1.1.2, ⟨hk.1.1.2, hk.1.2⟩⟩⟩⟩)))⟩; have n1_ : Aside0 (Kd.R k46 46 w37 w.heap.size (fun _ => True) (.slice Ao21 y445.length co21) y445) := ⟨(by rw [hw]; exact (by (with_reducible repeat (first | apply Kd.R_alloc | apply Kd.R_drewN | apply Kd.R_drew)); exact Kd.R_mono (rF_ (rF_ (Kd.R_types HO447.out BK460.out (by decide)))) (fun _ hk => trivial)))⟩; have n2_ : Aside0 (Kd.R (Kd.int .i64) 3 w37 w.heap.size (fun _ => True) v450 t449) := ⟨(by rw [hw]; exact (by (with_reducible repeat (first | apply Kd.R_alloc | apply Kd.R_drewN | apply Kd.R_drew)); exact Kd.R_mono (rF_ (rF_ (Kd.R_types HO451.out BK460.out (by decide)))) (fun _ hk => trivial)))⟩; have n3_ : Aside0 (w37.heap[gb448]? = some (.cells #[.slice Ao22 t442.length co22, .int .i64 2, .slice Ao21 y445.length co21] 25 (0, 0))) := ⟨(by rw [hw]; exact (bF_ (bF_ (hK_ BK448.out) NB448_460.out) NB448_460.out))⟩; have n4_ : Aside0 (w37.heap[gb456]? = some (.cells #[.int .i64 t453, .int .i64 t454] 34 (0, 0))) := ⟨(by rw [hw]; exact (bF_ (bF_ (hK_ BK456.out) NB456_460.out) NB456_460.out))⟩; have n5_ : Aside0 (w37.heap[gb460]? = some (.cells #[.int .i64 t457, .int .i64 t458] 34 (0, 0))) := ⟨(by rw [hw]; exact (bP_ (bP_ (hK_ BK460.out))))⟩; have n6_ : Aside0 (Below w.heap.size w w37) := ⟨(by rw [hw]; exact hC_)⟩; clear hw HO444 HO447 HO451 BK448 BK456 BK460 HB; have HO444 := n0_; have HO447 := n1_; have HO451 := n2_; have BK448 := n3_; have BK456 := n4_; have BK460 := n5_; have HB := n6_; clear n0_ n1_ n2_ n3_ n4_ n5_ n6_; obtain ⟨hcz38_0, hcz38_1, hcz38_2, hfz38_0, hfz38_1, hfz38_2⟩ := bx3_ BK448.out; have p6 : 0 ≤ (0 : Int) := (by omega); have q6 : (0 : Int) < ((y445.length : Int) : Int) := of_decide_eq_true hA_; have qi6 : (0 < y445.length) = True := eq_true (by omega); obtain ⟨go6, co6, eo6, gb6, gl6, cl6, HG6⟩ := Kd.R_form HO447.out (by omega); (first | cases eo6 | (injection eo6 with ea_ en_ ec_; (first | subst ea_ | (injection ea_ with ea_; subst ea_)); subst ec_; clear en_)); have GB6 := Aside0.mk gb6; have GG6 := Aside0.mk HG6; clear gb6 gl6 HG6; obtain ⟨ce6, hcl6, hM6, hcc6, hfr6⟩ := Kd.R_elem HO447.out z46 (0 : Int) p6 q6; obtain rfl := k46_openM hM6; have hx6_0 : w37.cell? ⟨go6, (0 : Int).toNat * 2, none⟩ = some (.int .i64 ((rd_T46 y445 0).f0)) := hcc6 0 _ rfl; have hx6_1 : w37.cell? ⟨go6, (0 : Int).toNat * 2 + 1, none⟩ = some (.int .i64 ((rd_T46 y445 0).f1)) := hcc6 1 _ rfl; have hf6_0 : w37.frozen? ⟨go6, (0 : Int).toNat * 2, none⟩ = false := hfr6 0; have hf6_1 : w37.frozen? ⟨go6, (0 : Int).toNat * 2 + 1, none⟩ = false := hfr6 1; clear hcl6 hcc6 hfr6 hM6; (try rw [show ((0 : Int)).toNat = 0 from rfl] at hx6_0); (try simp only [Nat.reduceMul, Nat.zero_mul, Nat.zero_add, Nat.reduceAdd] at hx6_0); (try rw [show ((0 : Int)).toNat = 0 from rfl] at hf6_0); (try simp only [Nat.reduceMul, Nat.zero_mul, Nat.zero_add, Nat.reduceAdd] at hf6_0); (try rw [show ((0 : Int)).toNat = 0 from rfl] at hx6_1); (try simp only [Nat.reduceMul, Nat.zero_mul, Nat.zero_add, Nat.reduceAdd] at hx6_1); (try rw [show ((0 : Int)).toNat = 0 from rfl] at hf6_1); (try simp only [Nat.reduceMul, Nat.zero_mul, Nat.zero_add, Nat.reduceAdd] at hf6_1); replace p6 := eq_true p6; replace q6 := eq_true q6; have HX39 := Aside0.mk (show Kd.R k46 46 w37 w.heap.size (fun _ => True) (.slice (some ⟨go6, 0, none⟩) y445.length co21) y445 from (hR_ HO447.out)); obtain ⟨ce39, hcl39, hM39, hcc39, hfr39⟩ := Kd.R_elem HX39.out z46 (0 : Int) (by omega) (by have h_ : (0 : Int) < ((y445.length : Int) : Int) := of_decide_eq_true hA_; first | exact h_ | (have e_ := (Kd.R_reads' HO447.out).1; omega) | simpa using h_); obtain rfl := k46_openM hM39; have HP39 := Kd.R_seg HX39.out (0 : Int) (by omega) (by have h_ : (0 : Int) < ((y445.length : Int) : Int) := of_decide_eq_true hA_; first | exact h_ | (have e_ := (Kd.R_reads' HO447.out).1; omega) | simpa using h_) (seg := [.int .i64 0]) (j := 1) hcl39 hcc39 (show 2 ≤ 2 from by decide) (x' := (⟨(rd_T46 y445 0).f0, 0⟩ : S46)) (k46_mkM _ _ _ (⟨(rd_T46 y445 0).f0, 0⟩ : S46) ) (fun _ hk => hk); have hx39_1 := hcc39 1 _ rfl; (try simp only [show (k46).sz = 2 from rfl, Nat.mul_one, Nat.add_zero] at hx39_1); (try rw [show ((0 : Int)).toNat = 0 from rfl] at hx39_1); (try simp only [Nat.reduceMul, Nat.zero_mul, Nat.zero_add, Nat.reduceAdd] at hx39_1); have hf39_1 := hfr39 1; (try simp only [show (k46).sz = 2 from rfl, Nat.mul_one, Nat.add_zero] at hf39_1); (try rw [show ((0 : Int)).toNat = 0 from rfl] at hf39_1); (try simp only [Nat.reduceMul, Nat.zero_mul, Nat.zero_add, Nat.reduceAdd] at hf39_1); clear hcl39 hcc39 hfr39 hM39) | ((with_reducible refine gate_store (t := 3) (p := 34) rfl ?_); refine store_event (t := 3) (p := 34) (v := ?vo_w40) (w1 := (w37.setCell ⟨go6, 1, none⟩ (.int .i64 0))) ?hg ?ho ?hn ?hr ?_; (case ho => rfl); (case hg => rfl); (case hn => rfl); (case hr => first | (go_simp; done) | (go_simp; rfl)); intro w40 hw; have hg : w37.grownBy w40 (some go6) := (by rw [hw]; exact HP39.2); have hp_ : Kd.R k46 46 w40 w.heap.size (fun _ => True) (.slice (some ⟨go6, 0, none⟩) y445.length co21) y461 := (by rw [hw, Ny461.out]; exact HP39.1); clear HP39; have n0_ := Aside0.mk (Kd.N_afterv (v := (.slice (some ⟨go6, 0, none⟩) y445.length co21)) (v1 := (.slice (some ⟨go6, 0, none⟩) y445.length co21)) (ok := (fun k_ => some k_ ≠ (v450 : Value).ownBlock ∧ k_ ≠ gb448 ∧ k_ ≠ gb456 ∧ k_ ≠ gb460)) (by (with_reducible repeat (first | apply Kd.N_alloc | apply Kd.N_drewN | apply Kd.N_drew)); exact Kd.N_mono HO444.out (fun _ hk => ⟨⟨hk.2.1, ⟨hk.2.2.1, ⟨hk.2.2.2.1, hk.2.2.2.2⟩⟩⟩, hk.1⟩)) hg (.inl rfl)); have n1_ := Aside0.mk (hp_); have n2_ := Aside0.mk (blk_grown (hK_ BK448.out) hg (Kd.R_ne HO447.out BK448.out (by decide))); have n3_ := Aside0.mk (Kd.R_over' (v := (.slice (some ⟨go6, 0, none⟩) y445.length co21)) (hR_ HO451.out) (Kd.R_typed HO447.out) (by decide) hg); have n4_ := Aside0.mk (blk_grown (hK_ BK456.out) hg (Kd.R_ne HO447.out BK456.out (by decide))); have n5_ := Aside0.mk (blk_grown (hK_ BK460.out) hg (Kd.R_ne HO447.out BK460.out (by decide))); have n6_ := Aside0.mk ((by rw [hw]; exact below_set (HB.out) GB6.out : Below w.heap.size w w40)); clear HO444 HO447 BK448 HO451 BK456 BK460 HB; have HO444 := n0_; have HO447 := n1_; have BK448 := n2_; have HO451 := n3_; have BK456 := n4_; have BK460 := n5_; have HB := n6_; clear n0_ n1_ n2_ n3_ n4_ n5_ n6_; clear hg hw hp_; obtain ⟨hcz41_0, hcz41_1, hcz41_2, hfz41_0, hfz41_1, hfz41_2⟩ := bx3_ BK448.out) | ((with_reducible refine gate_callee (f := 8) rfl ?_); refine goesL_ (some 37) rfl rfl Tryz.func8 (by kernel_rfl) rfl #[.agg #[.slice Ao22 t442.length co22, .int .i64 2, .slice (some ⟨go6, 0, none⟩) y461.length co21]] rfl (by (try simp only [List.map_toArray, List.map_cons, List.map_nil]); first | done | (rw [show y461.length = y445.length from (Kd.R_reads' HO447.out).1.symm] <;> rfl) | rfl | (simp only [List.length_drop, List.length_take]; rfl)) ?_; (with_reducible refine (next_Marks.calls k _ _ t442 2 _ _ y461 t462 t465 _ ?side1 ?side2 ?side3 ?side4 A7.out (by first | exact hG | exact GOK.below hG hC_)).mono ?_); (case side1 => repeat (first | exact (Kd.N_reads' HO444.out).2.2 | (with_reducible refine Kd.C_alloc ?_ _) | (with_reducible refine Kd.C_drewN ?_ _) | (with_reducible refine Kd.C_drew ?_))); (case side2 => exact (Kd.N_reads' HO444.out).2.1); (case side3 => exact cC_ (Kd.R_reads' HO447.out).2.2); (case side4 => rw [show y461.length = y445.length from (Kd.R_reads' HO447.out).1.symm]; exact (Kd.R_reads' HO447.out).2.1); rintro e w42 ⟨v463, rfl, ho0, hb⟩; refine ⟨_, rfl, ?_⟩; have n0_ := Aside0.mk (Kd.N_elder' (hN_ HO444.out) (Kd.R_base ho0) hb); have n1_ := Aside0.mk (Kd.R_below (hR_ HO447.out) hb); have n2_ := Aside0.mk (Kd.R_elder' (hR_ HO451.out) (Kd.R_base ho0) hb); have n3_ := Aside0.mk (Kd.R_lower (Kd.R_new' ho0 (Kd.R_lt (hR_ HO451.out))) (below_size hC_)); have n4_ := Aside0.mk (bB_ BK448.out hb); have n5_ := Aside0.mk (bB_ BK456.out hb); have n6_ := Aside0.mk (bB_ BK460.out hb); have n7_ := Aside0.mk (below_step hC_ hb); clear HO444 HO447 HO451 BK448 BK456 BK460 HB; have HO444 := n0_; have HO447 := n1_; have HO451 := n2_; have HO464 := n3_; have BK448 := n4_; have BK456 := n5_; have BK460 := n6_; have HB := n7_; clear n0_ n1_ n2_ n3_ n4_ n5_ n6_ n7_; (try clear hb); (try clear hb2); (try clear hk); (try clear hi); (try clear ho0)) | ((with_reducible refine gate_dst (N := 41) rfl ?_); refine Kd.R_lit (Kd.int .i64) _ 3 ?hg (N := 41) ?hd (xs := ([2, 1, 0, 0, 0] : List Int)) (inner := [.int .i64 2, .int .i64 1, .int .i64 0, .int .i64 0, .int .i64 0]) (ok := fun _ => True) (okp := fun _ => True) ?hr ?hp (fun _ hk => hk) trivial (Below.refl _ _) (Nat.le_refl _) (by simp) ?_; (case hd => rfl); (case hg => rfl); (case hr => first | (go_simp; done) | (go_simp; rfl)); (case hp => exact (Reps.one (show Kd.M (Kd.int .i64) _ _ _ 2 [.int .i64 2] from rfl) (Reps.one (show Kd.M (Kd.int .i64) _ _ _ 1 [.int .i64 1] from rfl) (Reps.one (show Kd.M (Kd.int .i64) _ _ _ 0 [.int .i64 0] from rfl) (Reps.one (show Kd.M (Kd.int .i64) _ _ _ 0 [.int .i64 0] from rfl) (Reps.one (show Kd.M (Kd.int .i64) _ _ _ 0 [.int .i64 0] from rfl) (Reps.none _ _))))))); intro v467 w43 ho44 hb hg_ hnew_; clear hg_ hnew_; (first | rw [← Ny466.out] at ho44 | (simp only [Int.reduceToNat] at ho44; rw [← Ny466.out] at ho44)); have n0_ := Aside0.mk (Kd.N_elder' (hN_ HO444.out) (Kd.R_base ho44) hb); have n1_ := Aside0.mk (Kd.R_below (hR_ HO447.out) hb); have n2_ := Aside0.mk (Kd.R_elder' (hR_ HO451.out) (Kd.R_base ho44) hb); have n3_ := Aside0.mk (Kd.R_elder' (hR_ HO464.out) (Kd.R_base ho44) hb); have n4_ := Aside0.mk (Kd.R_lower (Kd.R_new' (Kd.R_new' ho44 (Kd.R_lt (hR_ HO451.out))) (Kd.R_lt (hR_ HO464.out))) (below_size hC_)); have n5_ := Aside0.mk (bB_ BK448.out hb); have n6_ := Aside0.mk (bB_ BK456.out hb); have n7_ := Aside0.mk (bB_ BK460.out hb); have n8_ := Aside0.mk (below_step hC_ hb); clear HO444 HO447 HO451 HO464 BK448 BK456 BK460 HB; have HO444 := n0_; have HO447 := n1_; have HO451 := n2_; have HO464 := n3_; have HO468 := n4_; have BK448 := n5_; have BK456 := n6_; have BK460 := n7_; have HB := n8_; clear n0_ n1_ n2_ n3_ n4_ n5_ n6_ n7_ n8_; clear hb ho44; obtain ⟨Ao45, co45, eo45⟩ := Kd.R_slice HO451.out; subst eo45; obtain ⟨Ao46, co46, eo46⟩ := Kd.R_slice HO468.out; subst eo46) | ((with_reducible refine gate_callee (f := 12) rfl ?_); refine goesL_ (some 42) rfl rfl Tryz.func12 (by kernel_rfl) rfl #[.slice Ao45 t449.length co45, .slice Ao46 y466.length co46] rfl hL_ ?_; (with_reducible refine (sleuthlaw0_SameInts.calls k _ _ t449 _ _ y466 true _ ?side1 ?side2 ?side3 ?side4 A8.out).mono ?_); (case side1 => exact cC_ (Kd.R_reads' HO451.out).2.2); (case side2 => exact (Kd.R_reads' HO451.out).2.1); (case side3 => exact cC_ (Kd.R_reads' HO468.out).2.2); (case side4 => exact (Kd.R_reads' HO468.out).2.1); rintro e w' ⟨rfl, ⟨nd, rfl⟩⟩; refine ⟨_, rfl, ?_⟩) | (go_at_call 13; (with_reducible refine (sleuthlaw0_Num.calls t452 t470 _ A10.out).mono ?_); rintro e w' ⟨rfl, ⟨nd, rfl⟩⟩; obtain ⟨hcz47_0, hcz47_1, hfz47_0, hfz47_1⟩ := bx2_ BK456.out) | (go_at_call 13; (with_reducible refine (sleuthlaw0_Num.calls t455 t471 _ A13.out).mono ?_); rintro e w' ⟨rfl, ⟨nd, rfl⟩⟩) | (go_at_call 13; (with_reducible refine (sleuthlaw0_Num.calls t459 t472 _ A15.out).mono ?_); rintro e w' ⟨rfl, ⟨nd, rfl⟩⟩) | (go_at_call 13; (with_reducible refine (sleuthlaw0_Num.calls t465 t473 _ A17.out).mono ?_); rintro e w' ⟨rfl, ⟨nd, rfl⟩⟩))
  go_ret
  exact ⟨hV_, hC_⟩
end Go.Proofs.YtgokcaccamfgfaaGreatDoor.G
end
section
/- What the laws of package next share. -/
namespace Go.Proofs.YtgokcaccamfgfaaGreatDoor.G
open Go.RowKit Go.Proofs.YtgokcaccamfgfaaGreatDoorW.PrintWords Go.Proofs.YtgokcaccamfgfaaGreatDoorW.PrintLast Go.Proofs.YtgokcaccamfgfaaGreatDoorW.PrintMore
set_option linter.unusedVariables false
set_option linter.unusedSimpArgs false
def nextSome : List Nd := [(⟨0, (-1), ([] : List ByteArray), (⟨#[57]⟩ : ByteArray)⟩ : Nd), (⟨1, 0, (([(⟨#[64, 55, 40, 95, 32, 52, 41]⟩ : ByteArray), (⟨#[53]⟩ : ByteArray)] : List ByteArray)), (⟨#[57]⟩ : ByteArray)⟩ : Nd), (⟨2, 0, ([] : List ByteArray), (⟨#[33]⟩ : ByteArray)⟩ : Nd), (⟨1, 1, (([(⟨#[49]⟩ : ByteArray), (⟨#[95]⟩ : ByteArray)] : List ByteArray)), (⟨#[95]⟩ : ByteArray)⟩ : Nd), (⟨1, 2, (([(⟨#[49]⟩ : ByteArray), (⟨#[95]⟩ : ByteArray)] : List ByteArray)), (⟨#[95]⟩ : ByteArray)⟩ : Nd)]
theorem nextSome_eq : sleuthlaw20_some.f = some nextSome := rfl
theorem nextSome_may : mayT nextSome = true := by kernel_rfl
theorem nextAwake_ev : Ev (fun k => sleuthlaw20_awake.f k) true := by
  unfold sleuthlaw20_awake.f
  simp only [nextSome_eq, Option.bind_some]
  have l2 : (0 : Int) < (([(⟨0, 2⟩ : An), ⟨1, 1⟩] : List An).length : Int) := by decide
  refine Ev.bind (marks_ev nextSome 0 [⟨0, 2⟩, ⟨1, 1⟩]) (Ev.bind (step_ev nextSome 0 [⟨0, 2⟩, ⟨1, 1⟩]) (Ev.bind (step_ev nextSome 2 [⟨0, 2⟩, ⟨1, 1⟩]) ?_))
  simp only [if_pos l2]
  refine Ev.bind (marks_ev nextSome 2 [⟨0, 0⟩, ⟨1, 1⟩]) ?_
  have e1 : marksF nextSome [⟨0, 2⟩, ⟨1, 1⟩] = ([2, 1, 0, 0, 0], 0) := by kernel_rfl
  have e2 : stepF nextSome 0 [⟨0, 2⟩, ⟨1, 1⟩] = (0, 2, 0) := by kernel_rfl
  have e3 : stepF nextSome 2 [⟨0, 2⟩, ⟨1, 1⟩] = (0, 0, 2000) := by kernel_rfl
  have e4 : marksF nextSome [⟨0, 0⟩, ⟨1, 1⟩] = ([], 2000) := by kernel_rfl
  rw [e1, e2, e3, e4]
  refine Ev.bind (sameInts_ev [2, 1, 0, 0, 0] (by decide)) ?_
  simp only [sleuthlaw0_Num.f, Option.bind_some, if_pos, BEq.rfl, Bool.and_self]
  exact Ev.now _
end Go.Proofs.YtgokcaccamfgfaaGreatDoor.G
end
