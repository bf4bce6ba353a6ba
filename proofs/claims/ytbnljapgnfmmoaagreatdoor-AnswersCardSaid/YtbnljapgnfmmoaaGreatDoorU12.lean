/- Parts of this proof, one behind the other: NextHalf, TSess, G41, G43, G44, NextVals, G42, SessVals, G45. -/
import Derived.Test.YtbnljapgnfmmoaaGreatDoorU11
import Derived.Test.YtbnljapgnfmmoaaGreatDoorG0
import Derived.Test.YtbnljapgnfmmoaaGreatDoorU2
import Derived.Test.YtbnljapgnfmmoaaGreatDoorU10
import Derived.Test.YtbnljapgnfmmoaaGreatDoorU7
import Derived.Test.YtbnljapgnfmmoaaGreatDoorU9
import Derived.Test.YtbnljapgnfmmoaaGreatDoorU5
import Derived.Test.YtbnljapgnfmmoaaGreatDoorU6
section
namespace Go.Proofs.YtbnljapgnfmmoaaGreatDoor.G
open Go.RowKit Go.Proofs.YtbnljapgnfmmoaaGreatDoorW.PrintWords Go.Proofs.YtbnljapgnfmmoaaGreatDoorW.PrintLast Go.Proofs.YtbnljapgnfmmoaaGreatDoorW.PrintMore
set_option linter.unusedVariables false
set_option linter.unusedSimpArgs false
theorem rd_ne (l : List Int) (i j : Nat) (v : Int) (h : j ≠ i) : rd (l.set i v) (j : Int) = rd l (j : Int) := by
  show List.getD _ _ _ = List.getD _ _ _
  rw [Int.toNat_natCast, List.getD_eq_getElem?_getD, List.getD_eq_getElem?_getD, List.getElem?_set, if_neg (fun e => h e.symm)]
theorem sizesL_high {ns : List Nd} (hm : mayT ns = true) (c : Int → Int) (j : Nat) : ∀ (n : Nat) (o : List Int), n ≤ j → n ≤ ns.length → rd (sizesL ns c n o) (j : Int) = rd o (j : Int)
  | 0, o, _, _ => rfl
  | n + 1, o, h, hn => by
    rw [sizesL]
    have hp := mayT_pa hm n (by omega)
    have hp' : (rn ns (n : Int)).f1 = pa ns n := rfl
    rw [sizesL_high hm c j n _ (by omega) (by omega), hp']
    by_cases c0 : 0 < n
    · rw [if_pos c0, rd_ne _ _ _ _ (by omega), rd_ne _ _ _ _ (by omega)]
    · rw [if_neg c0, rd_ne _ _ _ _ (by omega)]
theorem halves_l2 {ns : List Nd} {ms : List Int} (h : marksS ns ms = true) (w : Nat) (hw : w < ns.length) (R : Int × Int) (M : Int)
    (hR : ∀ wt : List Int, wt.length = ns.length → (∀ j : Nat, w < j → j < ns.length → rd wt (j : Int) = rd (szH ns (dbt ns ms w ns.length) ms) (j : Int)) → Ev (fun k => sleuthref12_byHalves.l3 k ns ms (w : Int) (dbt ns ms w ns.length) wt M (-1) 0 ((w + 1 : Nat) : Int)) R) :
    ∀ n : Nat, w < n → n ≤ ns.length → ∀ o wt : List Int, o.length = ns.length → wt.length = ns.length → (∀ j : Nat, j < n → 0 ≤ rd o (j : Int)) → sumTo (fun j => rd o (j : Int) + oneN ns ms w j) n ≤ 512 →
      (∀ j : Nat, w < j → j < ns.length → rd wt (j : Int) = if j < n then rd o (j : Int) + oneN ns ms w j else rd o (j : Int)) → (∀ j : Nat, w < j → j < n → rdOf false (dbt ns ms w ns.length) (j : Int) = false → rd o (j : Int) = 0) →
      sizesL ns (oneB (dbt ns ms w ns.length) ms) n o = szH ns (dbt ns ms w ns.length) ms →
      Ev (fun k => sleuthref12_byHalves.l2 k ns ms (w : Int) (dbt ns ms w ns.length) wt M ((n : Int) - 1)) R := by
  obtain ⟨hm, hl, _⟩ := marksS_spec h
  have hlen := mayT_len hm
  have hdl := dbt_len ns ms w ns.length
  intro n
  induction n with
  | zero => intro hn; omega
  | succ m ih =>
    intro hwm hmN o wt ho hwt h0 hs hrel hnd hsz
    have e1 : ((m + 1 : Nat) : Int) - 1 = (m : Int) := by omega
    rw [e1]
    by_cases c : m = w
    · subst c
      have e2 : wrap64 ((m : Int) + 1) = ((m + 1 : Nat) : Int) := by rw [w64 (by omega) (by omega)]; omega
      refine Ev.step (fun k => ?_) (hR wt hwt (fun j hj hjN => ?_))
      · rw [sleuthref12_byHalves.l2, if_neg (by omega), e2]
      · rw [hrel j hj hjN, if_neg (by omega), ← hsz, sizesL_high hm _ j (m + 1) o (by omega) (by omega)]
    · have hp := mayT_pa hm m (by omega)
      obtain ⟨p, hpp⟩ : ∃ p : Nat, pa ns m = (p : Int) := ⟨(pa ns m).toNat, by omega⟩
      have hpm : p < m := by omega
      have hp' : (rn ns (m : Int)).f1 = (p : Int) := hpp
      rw [sumTo] at hs
      have hc0 : ∀ j : Nat, 0 ≤ oneN ns ms w j ∧ oneN ns ms w j ≤ 1 := fun j => oneB_range _ _ _
      have hm0 := h0 m (by omega)
      have hcm := hc0 m
      have hsum0 := sumTo_nonneg (f := fun j => rd o (j : Int) + oneN ns ms w j) (n := m) (fun j hj => by have := h0 j (by omega); have := hc0 j; omega)
      have hq1 := sumTo_mem (f := fun j => rd o (j : Int) + oneN ns ms w j) (i := p) (n := m) (fun j hj => by have := h0 j (by omega); have := hc0 j; omega) hpm
      have hp0 := h0 p (by omega)
      have hcp := hc0 p
      have hone : oneB (dbt ns ms w ns.length) ms (m : Int) = oneN ns ms w m := rfl
      have hv : wrap64 (rd o (m : Int) + oneN ns ms w m) = rd o (m : Int) + oneN ns ms w m := w64 (by omega) (by omega)
      obtain ⟨v, hvv⟩ : ∃ v, rd o (m : Int) + oneN ns ms w m = v := ⟨_, rfl⟩
      have hv0 : 0 ≤ v := by omega
      have g1m : rd (o.set m v) (m : Int) = v := by rw [rd_setN _ _ _ _ (by omega), if_pos rfl]
      have g1p : rd (o.set m v) (p : Int) = rd o (p : Int) := rd_ne _ _ _ _ (by omega)
      have hvp : wrap64 (rd o (p : Int) + v) = rd o (p : Int) + v := w64 (by omega) (by omega)
      have g2 : ∀ j : Nat, rd ((o.set m v).set p (rd o (p : Int) + v)) (j : Int) = if j = p then rd o (p : Int) + v else if j = m then v else rd o (j : Int) := by
        intro j
        rw [rd_setN _ _ _ _ (by rw [List.length_set]; omega)]
        by_cases c1 : j = p
        · rw [if_pos c1, if_pos c1]
        · rw [if_neg c1, if_neg c1, rd_setN _ _ _ _ (by omega)]
      have hnext : sizesL ns (oneB (dbt ns ms w ns.length) ms) m ((o.set m v).set p (rd o (p : Int) + v)) = szH ns (dbt ns ms w ns.length) ms := by
        rw [sizesL] at hsz
        rw [hone, hv, hvv, if_pos (by omega), hp', Int.toNat_natCast, g1m, g1p, hvp] at hsz
        exact hsz
      have hw2 : wrap64 ((m : Int) - 1) = (m : Int) - 1 := w64 (by omega) (by omega)
      have hwm1 : rd wt (m : Int) = v := by rw [hrel m (by omega) (by omega), if_pos (by omega), hvv]
      have hs2 : sumTo (fun j => rd ((o.set m v).set p (rd o (p : Int) + v)) (j : Int) + oneN ns ms w j) m = sumTo (fun j => rd o (j : Int) + oneN ns ms w j) m + v :=
        sumTo_one hpm (fun j hj => by
          rw [g2]
          by_cases c1 : j = p
          · rw [if_pos c1, if_pos c1, c1]; omega
          · rw [if_neg c1, if_neg c1, if_neg (by omega)])
      have hn2 : ∀ j : Nat, j < m → 0 ≤ rd ((o.set m v).set p (rd o (p : Int) + v)) (j : Int) := fun j hj => by
        rw [g2]
        have := h0 j (by omega)
        split
        · omega
        · rw [if_neg (by omega)]; exact this
      have hz : rdOf false (dbt ns ms w ns.length) (m : Int) = false → v = 0 := fun hd => by
        have h1 := hnd m (by omega) (by omega) hd
        have h2 : oneN ns ms w m = 0 := by
          unfold oneN oneB openB
          rw [hd, Bool.false_and, if_neg Bool.false_ne_true]
        omega
      have hd2 : ∀ j : Nat, w < j → j < m → rdOf false (dbt ns ms w ns.length) (j : Int) = false → rd ((o.set m v).set p (rd o (p : Int) + v)) (j : Int) = 0 := fun j hj hjm hd => by
        rw [g2]
        by_cases c1 : j = p
        · rw [if_pos c1]
          subst c1
          have h1 := hnd j hj (by omega) hd
          have h2 : rdOf false (dbt ns ms w ns.length) (m : Int) = false := by
            cases hq : rdOf false (dbt ns ms w ns.length) (m : Int) with
            | false => rfl
            | true =>
              obtain ⟨_, _, _, q4⟩ := dbt_spec hm ms w ns.length (Nat.le_refl _) m hq
              rw [hpp] at q4
              rcases q4 with q4 | q4
              · omega
              · rw [hd] at q4; exact absurd q4.2 Bool.false_ne_true
          rw [h1, hz h2]; rfl
        · rw [if_neg c1, if_neg (by omega)]
          exact hnd j hj (by omega) hd
      by_cases cd : rdOf false (dbt ns ms w ns.length) (m : Int) = true ∧ (p : Int) > (w : Int)
      · have hwp1 : rd wt (p : Int) = rd o (p : Int) + oneN ns ms w p := by rw [hrel p (by omega) (by omega), if_pos (by omega)]
        have hw3 : wrap64 (rd o (p : Int) + oneN ns ms w p + v) = rd o (p : Int) + oneN ns ms w p + v := w64 (by omega) (by omega)
        refine Ev.step (f := fun k => sleuthref12_byHalves.l2 k ns ms (w : Int) (dbt ns ms w ns.length) (wt.set p (rd o (p : Int) + oneN ns ms w p + v)) M ((m : Int) - 1)) (fun k => ?_)
          (ih (by omega) (by omega) _ _ (by rw [List.length_set, List.length_set]; exact ho) (by rw [List.length_set]; exact hwt) hn2 (by rw [hs2]; omega) (fun j hj hjN => ?_) hd2 hnext)
        · have hp2 : (rd_T66 ns (m : Int)).f1 = (p : Int) := hpp
          rw [sleuthref12_byHalves.l2, if_pos (by omega), if_pos (by omega), if_pos (by omega), if_pos cd.1, if_pos (by omega), hp2, if_pos cd.2, if_pos (by omega), if_pos (by omega), if_pos (by omega), hwp1, hwm1, hw3, hw2, Int.toNat_natCast]
        · rw [rd_setN _ _ _ _ (by omega), g2]
          by_cases c1 : j = p
          · rw [if_pos c1, if_pos (by omega), if_pos c1, c1]; omega
          · rw [if_neg c1, if_neg c1, hrel j hj hjN]
            by_cases c2 : j = m
            · rw [if_pos (by omega), if_neg (by omega), if_pos c2, c2, hvv]
            · rw [if_neg c2]
              by_cases c3 : j < m
              · rw [if_pos (by omega), if_pos c3]
              · rw [if_neg (by omega), if_neg c3]
      · refine Ev.step (f := fun k => sleuthref12_byHalves.l2 k ns ms (w : Int) (dbt ns ms w ns.length) wt M ((m : Int) - 1)) (fun k => ?_)
          (ih (by omega) (by omega) _ _ (by rw [List.length_set, List.length_set]; exact ho) hwt hn2 (by rw [hs2]; omega) (fun j hj hjN => ?_) hd2 hnext)
        · have hp2 : (rd_T66 ns (m : Int)).f1 = (p : Int) := hpp
          rw [sleuthref12_byHalves.l2, if_pos (by omega), if_pos (by omega), if_pos (by omega)]
          cases hq : rdOf false (dbt ns ms w ns.length) (m : Int) with
          | false => rw [if_neg Bool.false_ne_true, hw2]
          | true => rw [if_pos rfl, if_pos (by omega), hp2, if_neg (fun hh => cd ⟨hq, hh⟩), hw2]
        · rw [g2, hrel j hj hjN]
          by_cases c1 : j = p
          · have h2 : rdOf false (dbt ns ms w ns.length) (m : Int) = false := by
              cases hq : rdOf false (dbt ns ms w ns.length) (m : Int) with
              | false => rfl
              | true => exact absurd ⟨hq, by omega⟩ cd
            rw [if_pos (by omega), if_pos (by omega), if_pos c1, hz h2, c1]; omega
          · rw [if_neg c1]
            by_cases c2 : j = m
            · rw [if_pos (by omega), if_neg (by omega), if_pos c2, c2, hvv]
            · rw [if_neg c2]
              by_cases c3 : j < m
              · rw [if_pos (by omega), if_pos c3]
              · rw [if_neg (by omega), if_neg c3]
theorem bestH_low {ns : List Nd} (hm : mayT ns = true) (ms sz : List Int) (M : Int) (w : Nat) : ∀ n : Nat, n ≤ w + 1 → bestH sz (dbt ns ms w ns.length) ms M n = -1
  | 0, _ => rfl
  | n + 1, h => by
    rw [bestH, if_neg (fun hh => by rw [oneB_low hm ms w n (by omega)] at hh; exact absurd hh.1 Bool.false_ne_true)]
    exact bestH_low hm ms sz M w n (by omega)
def offO (sz : List Int) (b M : Int) : Int := if b < 0 then 0 else offW (rd sz b) M
theorem halves_l3 {ns : List Nd} {ms : List Int} (h : marksS ns ms = true) (w : Nat) (hw : w < ns.length) (sz wt : List Int) (M : Int) (hwl : wt.length = ns.length) (hwt : ∀ j : Nat, w < j → j < ns.length → rd wt (j : Int) = rd sz (j : Int)) :
    ∀ n i : Nat, w < i → i + n = ns.length → Ev (fun k => sleuthref12_byHalves.l3 k ns ms (w : Int) (dbt ns ms w ns.length) wt M (bestH sz (dbt ns ms w ns.length) ms M i) (offO sz (bestH sz (dbt ns ms w ns.length) ms M i) M) (i : Int))
      (if bestH sz (dbt ns ms w ns.length) ms M ns.length < 0 then bugS ns ms (w : Int) else (0, bestH sz (dbt ns ms w ns.length) ms M ns.length)) := by
  obtain ⟨hm, hl, _⟩ := marksS_spec h
  have hlen := mayT_len hm
  have hdl := dbt_len ns ms w ns.length
  intro n
  induction n with
  | zero =>
    intro i hwi hi
    obtain rfl : i = ns.length := by omega
    generalize bestH sz (dbt ns ms w ns.length) ms M ns.length = b
    by_cases cb : b < 0
    · rw [if_pos cb]
      refine Ev.step (f := fun k => (sleuthref12_verdict.f k ns ms (w : Int)).bind fun bt392 => (some (bt392.1, bt392.2))) (fun k => ?_) (Ev.bind (verdict_ev h (w : Int) (by omega)) (Ev.now _))
      rw [sleuthref12_byHalves.l3, if_neg (by omega), if_neg (by omega)]
    · rw [if_neg cb]
      refine Ev.step (f := fun k => some (0, b)) (fun k => ?_) (Ev.now _)
      rw [sleuthref12_byHalves.l3, if_neg (by omega), if_pos (by omega)]
  | succ n ih =>
    intro i hwi hi
    have hw1 : wrap64 ((i : Int) + 1) = ((i + 1 : Nat) : Int) := by rw [w64 (by omega) (by omega)]; omega
    have ih' := ih (i + 1) (by omega) (by omega)
    have hwi2 := hwt i hwi (by omega)
    have hb : bestH sz (dbt ns ms w ns.length) ms M (i + 1) = if openB (dbt ns ms w ns.length) ms (i : Int) = true ∧ (bestH sz (dbt ns ms w ns.length) ms M i < 0 ∨ offW (rd sz (i : Int)) M < offW (rd sz (bestH sz (dbt ns ms w ns.length) ms M i)) M) then (i : Int) else bestH sz (dbt ns ms w ns.length) ms M i := rfl
    rw [hb] at ih'
    clear hb
    generalize bestH sz (dbt ns ms w ns.length) ms M i = b at ih' ⊢
    generalize (if bestH sz (dbt ns ms w ns.length) ms M ns.length < 0 then bugS ns ms (w : Int) else (0, bestH sz (dbt ns ms w ns.length) ms M ns.length)) = R at ih' ⊢
    by_cases co : openB (dbt ns ms w ns.length) ms (i : Int) = true
    · have co' := co
      unfold openB at co'
      rw [Bool.and_eq_true, beq_iff_eq] at co'
      have hz : (rd ms (i : Int) != 0) = false := by rw [co'.2]; rfl
      refine Ev.step (f := fun k => sleuthref12_byHalves.j4 k ns ms (w : Int) (dbt ns ms w ns.length) wt M b (offO sz b M) (i : Int) false) (fun k => ?_) ?_
      · rw [sleuthref12_byHalves.l3, if_pos (by omega), if_pos (by omega), if_pos (by omega), if_pos co'.1, if_pos (by omega), hz]
      · refine Ev.step (fun k => ?_) ih'
        have hoff : mx (wrap64 ((wrap64 (2 * (rd wt (i : Int)))) - M)) (wrap64 (M - (wrap64 (2 * (rd wt (i : Int)))))) = offW (rd sz (i : Int)) M := by rw [hwi2]; rfl
        rw [sleuthref12_byHalves.j4, if_neg Bool.false_ne_true, if_pos (by omega), if_pos (by omega), hoff, hw1]
        by_cases cb : b < 0
        · rw [if_pos cb, if_pos ⟨co, .inl cb⟩]
          unfold offO
          rw [if_neg (show ¬ (i : Int) < 0 by omega)]
        · rw [if_neg cb]
          have ho : offO sz b M = offW (rd sz b) M := by unfold offO; rw [if_neg cb]
          rw [ho]
          by_cases cl : offW (rd sz (i : Int)) M < offW (rd sz b) M
          · rw [if_pos cl, if_pos ⟨co, .inr cl⟩]
            unfold offO
            rw [if_neg (show ¬ (i : Int) < 0 by omega)]
          · rw [if_neg cl, if_neg (fun hh => hh.2.elim cb cl), ho]
    · rw [if_neg (fun hh => co hh.1)] at ih'
      have co' : ¬ (rdOf false (dbt ns ms w ns.length) (i : Int) = true ∧ rd ms (i : Int) = 0) := fun hh => co (by unfold openB; rw [hh.1, hh.2]; rfl)
      refine Ev.step (f := fun k => sleuthref12_byHalves.j4 k ns ms (w : Int) (dbt ns ms w ns.length) wt M b (offO sz b M) (i : Int) true) (fun k => ?_) (Ev.step (fun k => ?_) ih')
      · rw [sleuthref12_byHalves.l3, if_pos (by omega), if_pos (by omega), if_pos (by omega)]
        cases hq : rdOf false (dbt ns ms w ns.length) (i : Int) with
        | false => rw [if_neg Bool.false_ne_true]
        | true => rw [if_pos rfl, if_pos (by omega), show (rd ms (i : Int) != 0) = true from bne_iff_ne.2 (fun hh => co' ⟨hq, hh⟩)]
      · rw [sleuthref12_byHalves.j4, if_pos rfl, hw1]
theorem halves_l0 {ns : List Nd} {ms : List Int} (h : marksS ns ms = true) (R : Int × Int)
    (hR : Ev (fun k => sleuthref12_byHalves.l1 k ns ms (lastM ms ms.length) (List.replicate ns.length false) (List.replicate ns.length 0) 0 (wrap64 (lastM ms ms.length + 1))) R) :
    ∀ n i : Nat, i + n = ns.length → Ev (fun k => sleuthref12_byHalves.l0 k ns ms (lastM ms i) (i : Int)) R := by
  obtain ⟨hm, hl, _⟩ := marksS_spec h
  have hlen := mayT_len hm
  intro n
  induction n with
  | zero =>
    intro i hi
    obtain rfl : i = ms.length := by omega
    refine Ev.step (fun k => ?_) hR
    rw [sleuthref12_byHalves.l0, if_neg (by omega), if_pos (by omega), Int.toNat_natCast, if_pos (by omega), if_pos (by omega)]
  | succ n ih =>
    intro i hi
    have hw1 : wrap64 ((i : Int) + 1) = ((i + 1 : Nat) : Int) := by rw [w64 (by omega) (by omega)]; omega
    refine Ev.step (fun k => ?_) (ih (i + 1) (by omega))
    rw [sleuthref12_byHalves.l0, if_pos (by omega), if_pos (by omega), if_pos (by omega), hw1, lastM]
    by_cases c : rd ms (i : Int) = 2
    · rw [if_pos c, if_pos c]
    · rw [if_neg c, if_neg c]
theorem byHalves_ev {ns : List Nd} {ms : List Int} (h : marksS ns ms = true) : Ev (fun k => sleuthref12_byHalves.f k ns ms) (askH ns ms) := by
  obtain ⟨hm, hl, _⟩ := marksS_spec h
  have hlen := mayT_len hm
  unfold sleuthref12_byHalves.f
  have g : (0 : Int) < (ms.length : Int) := by omega
  simp only [if_pos g]
  by_cases c2 : rd ms 0 = 2
  · simp only [if_pos c2]
    have hr := lastM_range ms ms.length (by omega)
    obtain ⟨w, hwe⟩ : ∃ w : Nat, lastM ms ms.length = (w : Int) := ⟨(lastM ms ms.length).toNat, by omega⟩
    have hw : w < ns.length := by omega
    have e : askH ns ms = if bestH (szH ns (dbt ns ms w ns.length) ms) (dbt ns ms w ns.length) ms (sumTo (oneN ns ms w) ns.length) ns.length < 0 then bugS ns ms (w : Int) else (0, bestH (szH ns (dbt ns ms w ns.length) ms) (dbt ns ms w ns.length) ms (sumTo (oneN ns ms w) ns.length) ns.length) := by
      unfold askH
      rw [if_pos c2, hwe, Int.toNat_natCast, half_total h w hw]
    rw [e]
    refine halves_l0 h _ ?_ ns.length 0 (by omega)
    have e2 : wrap64 ((w : Int) + 1) = ((w + 1 : Nat) : Int) := by rw [w64 (by omega) (by omega)]; omega
    rw [hwe, e2]
    have hz : sumTo (oneN ns ms w) (w + 1) = 0 := sumTo_zero (fun j hj => oneN_low hm ms w j (by omega))
    have h2 : Ev (fun k => sleuthref12_byHalves.l2 k ns ms (w : Int) (dbt ns ms w ns.length) (wtL ns ms w ns.length) (sumTo (oneN ns ms w) ns.length) ((ns.length : Int) - 1))
        (if bestH (szH ns (dbt ns ms w ns.length) ms) (dbt ns ms w ns.length) ms (sumTo (oneN ns ms w) ns.length) ns.length < 0 then bugS ns ms (w : Int) else (0, bestH (szH ns (dbt ns ms w ns.length) ms) (dbt ns ms w ns.length) ms (sumTo (oneN ns ms w) ns.length) ns.length)) := by
      have hs := oneN_sum ns ms w ns.length
      refine halves_l2 h w hw _ _ (fun wt hwl hwt => ?_) ns.length hw (Nat.le_refl _) (List.replicate ns.length 0) (wtL ns ms w ns.length) List.length_replicate (wtL_len ns ms w ns.length) (fun j hj => by rw [rd_rep]; exact Int.le_refl _) ?_ (fun j hj hjN => ?_) (fun j _ _ _ => rd_rep _ _) rfl
      · have h3 := halves_l3 h w hw (szH ns (dbt ns ms w ns.length) ms) wt (sumTo (oneN ns ms w) ns.length) hwl hwt (ns.length - (w + 1)) (w + 1) (by omega) (by omega)
        rw [bestH_low hm ms _ _ w (w + 1) (Nat.le_refl _)] at h3
        exact h3
      · have e3 : sumTo (fun j => rd (List.replicate ns.length 0) (j : Int) + oneN ns ms w j) ns.length = sumTo (oneN ns ms w) ns.length := sumTo_congr (fun j hj => by rw [rd_rep, Int.zero_add])
        rw [e3]; omega
      · rw [wtL_at ns ms w j ns.length (Nat.le_refl _), if_pos hjN, if_pos hjN, rd_rep, Int.zero_add]
    have h1 := halves_l1 h w hw _ h2 (ns.length - (w + 1)) (w + 1) (by omega) (by omega)
    rw [dbt_low ns ms w (w + 1) (Nat.le_refl _), wtL_low hm ms w (w + 1) (Nat.le_refl _), hz] at h1
    exact h1
  · simp only [if_neg c2, rooted_eq h c2, Option.bind_some]
    have e : askH ns ms = askT ns ms := by unfold askH; rw [if_neg c2]
    rw [e]
    exact Ev.now _
end Go.Proofs.YtbnljapgnfmmoaaGreatDoor.G
end
section
namespace Go.Proofs.YtbnljapgnfmmoaaGreatDoor.G
open Go.RowKit Go.Proofs.YtbnljapgnfmmoaaGreatDoorW.PrintWords Go.Proofs.YtbnljapgnfmmoaaGreatDoorW.PrintLast Go.Proofs.YtbnljapgnfmmoaaGreatDoorW.PrintMore

set_option maxHeartbeats 8000000
set_option maxRecDepth 100000
attribute [local go_sem] max2_int min2_int max_two min_two max_three min_three max_four min_four   -- for this text's walks alone
set_option linter.unusedVariables false
set_option linter.unusedSimpArgs false

def sleuthref12_asks.f (k : Nat) (l0 : List (S66)) (a1 : Int) (l2 : List Int) : Option (Int × Int) := if a1 = 0 then ((sleuthref12_topDown.f k l0 l2).bind fun bt408 => (some (bt408.1, bt408.2))) else ((sleuthref12_byHalves.f k l0 l2).bind fun bt410 => (some (bt410.1, bt410.2)))
theorem sleuthref12_asks.calls (k : Nat) (A0 : Option Addr) (c0 : Nat) (l0 : List (S66)) (a1 : Int) (A2 : Option Addr) (c2 : Nat) (l2 : List Int) (r1 : Int) (r2 : Int) (w : World) (hr0 : Kd.C k66 w A0 l0.length l0) (hc0 : l0.length ≤ c0) (hr2 : Kd.C (Kd.int .i64) w A2 l2.length l2) (hc2 : l2.length ≤ c2) (h : sleuthref12_asks.f k l0 a1 l2 = some (r1, r2)) :
 Calls Tryz.prog 33 #[.slice A0 l0.length c0, .int .i64 a1, .slice A2 l2.length c2] w fun e w' => e = .returned (.agg #[.int .i64 r1, .int .i64 r2]) ∧ Below w.heap.size w w' := by
 have hu49 := Tryz.underlying49
 have HR0 := a_ hr0
 have HC0 := a_ hc0
 clear hr0 hc0
 have HR2 := a_ hr2
 have HC2 := a_ hc2
 clear hr2 hc2
 have HB := a_ (Below.refl w.heap.size w)
 have H := h; unfold sleuthref12_asks.f at H
 clear h
 by_cases c4 : a1 = 0
 case neg =>
  rw [if_neg c4] at H
  have c4b0 : (a1 == 0) = false := beq_eq_false_iff_ne.mpr c4
  have c4b1 : (a1 != 0) = true := bne_iff_ne.mpr c4
  replace H := Option.bind_eq_some_iff.mp H
  obtain ⟨⟨t0, t1⟩, A90, H⟩ := H
  try dsimp only at H
  have A9 := a_ A90
  clear A90
  simp only [Option.some.injEq, Prod.mk.injEq] at H
  obtain ⟨rfl, rfl⟩ := H
  go_enter Tryz.func33, Tryz.ntmps33
  go_wp2_with (first | ((with_reducible refine gate_dst (N := 6) rfl ?_); refine boxE_ 6 #[.int .i64 0, .int .i64 0] 49 ?_; intro g0 hg w0 hbox hb; have B0 := a_ (hbox); have E0 := a_ ((gE_ hg : w.heap.size ≤ g0)); replace HB := a_ (below_step hB_ hb); clear hb hbox hg) | ((with_reducible refine gate_callee (f := 47) rfl ?_); refine goesL_ (some 14) rfl rfl Tryz.func47 (by kernel_rfl) rfl #[.slice A0 l0.length c0, .slice A2 l2.length c2] rfl hL_ ?_; (with_reducible refine (sleuthref12_byHalves.calls k _ _ l0 _ _ l2 t0 t1 _ ?s1 ?s2 ?s3 ?s4 A9.out).mono ?_); (case s1 => exact cB_ HR0.out); (case s2 => exact HC0.out); (case s3 => exact cB_ HR2.out); (case s4 => exact HC2.out); rintro e w1 ⟨rfl, hb⟩; refine ⟨_, rfl, ?_⟩; replace B0 := a_ (bB_ B0.out hb); replace HB := a_ (below_step hC_ hb); (try clear hb); (try clear hb2); (try clear hk); (try clear hi); obtain ⟨z0, z1, f0, f1⟩ := bx2_ B0.out))
  refine bodyPost_ret (results_cell_row rfl _ _ g0 49 #[.int .i64 t0, .int .i64 t1] (0, 0) _ rfl (bP_ (bP_ (hK_ B0.out))) Tryz.underlying49 rfl (by kernel_rfl)) rfl ?_
  exact ⟨hV_, hC_⟩

 rw [if_pos c4] at H
 have c4b0 : (a1 == 0) = true := beq_iff_eq.mpr c4
 have c4b1 : (a1 != 0) = false := bne_eq_false_iff_eq.mpr c4
 clear c4
 replace H := Option.bind_eq_some_iff.mp H
 obtain ⟨⟨t2, t3⟩, A50, H⟩ := H
 try dsimp only at H
 have A5 := a_ A50
 clear A50
 simp only [Option.some.injEq, Prod.mk.injEq] at H
 obtain ⟨rfl, rfl⟩ := H
 go_enter Tryz.func33, Tryz.ntmps33
 go_wp2_with (first | ((with_reducible refine gate_dst (N := 6) rfl ?_); refine boxE_ 6 #[.int .i64 0, .int .i64 0] 49 ?_; intro g0 hg w6 hbox hb; have B0 := a_ (hbox); have E0 := a_ ((gE_ hg : w.heap.size ≤ g0)); replace HB := a_ (below_step hB_ hb); clear hb hbox hg) | ((with_reducible refine gate_callee (f := 46) rfl ?_); refine goesL_ (some 11) rfl rfl Tryz.func46 (by kernel_rfl) rfl #[.slice A0 l0.length c0, .slice A2 l2.length c2] rfl hL_ ?_; (with_reducible refine (sleuthref12_topDown.calls k _ _ l0 _ _ l2 t2 t3 _ ?s1 ?s2 ?s3 ?s4 A5.out).mono ?_); (case s1 => exact cB_ HR0.out); (case s2 => exact HC0.out); (case s3 => exact cB_ HR2.out); (case s4 => exact HC2.out); rintro e w7 ⟨rfl, hb⟩; refine ⟨_, rfl, ?_⟩; replace B0 := a_ (bB_ B0.out hb); replace HB := a_ (below_step hC_ hb); (try clear hb); (try clear hb2); (try clear hk); (try clear hi); obtain ⟨z2, z3, f2, f3⟩ := bx2_ B0.out))
 refine bodyPost_ret (results_cell_row rfl _ _ g0 49 #[.int .i64 t2, .int .i64 t3] (0, 0) _ rfl (bP_ (bP_ (hK_ B0.out))) Tryz.underlying49 rfl (by kernel_rfl)) rfl ?_
 exact ⟨hV_, hC_⟩
set_option maxHeartbeats 8000000
set_option maxRecDepth 100000
attribute [local go_sem] max2_int min2_int max_two min_two max_three min_three max_four min_four   -- for this text's walks alone
set_option linter.unusedVariables false
set_option linter.unusedSimpArgs false

mutual
def sleuthref12_Marks.j0 : Nat → Bool → List (S66) → Int → List (S53) → Option (List Int × Int)
 | 0, _, _, _, _ => none
 | k + 1, x16, x426000, x426001, x426002 => if x16 = true then (some (([] : List Int), 2000)) else (if 0 ≤ (x426000.length : Int) then (if ((x426000.length : Int) : Int).toNat ≤ 35184372088832 then (sleuthref12_Marks.l0 k (List.replicate ((x426000.length : Int) : Int).toNat 0) 0 x426000 x426001 x426002) else (none)) else (none))
def sleuthref12_Marks.l0 : Nat → List Int → Int → List (S66) → Int → List (S53) → Option (List Int × Int)
 | 0, _, _, _, _, _ => none
 | k + 1, x4, x5, x426000, x426001, x426002 => if x5 < (x426002.length : Int) then (if 0 ≤ x5 then ((sleuthref12_upTo.f ((rd_T53 x426002 x5).f0) 0 (wrap64 ((x426000.length : Int) - 1))).bind fun t432 => (if t432 = true then ((sleuthref12_markMay.f ((rd_T53 x426002 x5).f1)).bind fun t433 => (if t433 = true then (if 0 ≤ ((rd_T53 x426002 x5).f0) then (if ((rd_T53 x426002 x5).f0) < (x4.length : Int) then (sleuthref12_Marks.l0 k (x4.set (((rd_T53 x426002 x5).f0) : Int).toNat ((rd_T53 x426002 x5).f1)) (wrap64 (x5 + 1)) x426000 x426001 x426002) else (none)) else (none)) else (some (([] : List Int), 2000)))) else (some (([] : List Int), 2000)))) else (none)) else (some (x4, 0))
end
def sleuthref12_Marks.f (k : Nat) (l0_0 : List (S66)) (a0_1 : Int) (l0_2 : List (S53)) : Option (List Int × Int) := (sleuthref12_TrailMay.f k l0_0).bind fun t426 => (if t426 = true then (sleuthref12_Marks.j0 k (decide ((l0_2.length : Int) > 512)) l0_0 a0_1 l0_2) else (sleuthref12_Marks.j0 k true l0_0 a0_1 l0_2))
theorem sleuthref12_Marks.calls (k : Nat) (A0_0 : Option Addr) (c0_0 : Nat) (l0_0 : List (S66)) (a0_1 : Int) (A0_2 : Option Addr) (c0_2 : Nat) (l0_2 : List (S53)) (r1 : List Int) (r2 : Int) (w : World) (hr0_0 : Kd.C k66 w A0_0 l0_0.length l0_0) (hc0_0 : l0_0.length ≤ c0_0) (hr0_2 : Kd.C k53 w A0_2 l0_2.length l0_2) (hc0_2 : l0_2.length ≤ c0_2) (h : sleuthref12_Marks.f k l0_0 a0_1 l0_2 = some (r1, r2)) :
 Calls Tryz.prog 43 #[.agg #[.slice A0_0 l0_0.length c0_0, .int .i64 a0_1, .slice A0_2 l0_2.length c0_2]] w fun e w' => ∃ v0_ : Value, e = .returned (.tuple #[v0_, .int .i64 r2]) ∧ Kd.R (Kd.int .i64) 3 w' w.heap.size (fun _ => True) v0_ r1 ∧ Below w.heap.size w w' := by
 have hu25 := Tryz.underlying25
 have hu53 := Tryz.underlying53
 have HR0_0 := a_ hr0_0
 have HC0_0 := a_ hc0_0
 clear hr0_0 hc0_0
 have HR0_2 := a_ hr0_2
 have HC0_2 := a_ hc0_2
 clear hr0_2 hc0_2
 have HB := a_ (Below.refl w.heap.size w)
 have H := h; unfold sleuthref12_Marks.f at H
 clear h
 have HC2 := a_ H
 clear H
 go_enter Tryz.func43, Tryz.ntmps43
 go_upto_region 1 with (first | ((with_reducible refine gate_dst (N := 1) rfl ?_); (try (refine gate_guard (by rfl) ?_; dsimp only)); refine boxE_ 1 #[.slice A0_0 l0_0.length c0_0, .int .i64 a0_1, .slice A0_2 l0_2.length c0_2] 25 ?_; intro g1 hg w3 hbox hb; have B0 := a_ (hbox); have E1 := a_ ((gE_ hg : w.heap.size ≤ g1)); replace HB := a_ (below_step hB_ hb); clear hb hbox hg))
 (try simp only [Act.put, List.setIfInBounds_toArray, List.set_cons_zero, List.set_cons_succ])
 go_cut [16] (fun v1 wc => ∃ (kq : Nat) (x2 : Bool), v1 = .bool x2 ∧ Aside0 (sleuthref12_Marks.j0 kq x2 l0_0 a0_1 l0_2 = some (r1, r2)) ∧ Aside0 (kq ≤ k) ∧ Aside0 (wc.heap[g1]? = some (.cells #[(.slice A0_0 l0_0.length c0_0), .int .i64 a0_1, (.slice A0_2 l0_2.length c0_2)] 25 (0, 0))) ∧ Aside0 (Below w.heap.size w wc))
 case first =>
  have H := HC2.out
  clear HC2
  replace H := Option.bind_eq_some_iff.mp H
  obtain ⟨t0, A40, H⟩ := H
  try dsimp only at H
  have A4 := a_ A40
  clear A40
  by_cases c5 : t0 = true
  case neg =>
   replace c5 := Bool.eq_false_iff.mpr c5
   subst c5
   rw [if_neg (show ¬ (false = true) by decide)] at H
   have H' := a_ H
   clear H
   obtain ⟨z0, z1, z2, f2, f3, f4⟩ := bx3_ B0.out
   go_wp2_with (first | ((with_reducible refine gate_callee (f := 18) rfl ?_); refine goesL_ (some 9) rfl rfl Tryz.func18 (by kernel_rfl) rfl #[.slice A0_0 l0_0.length c0_0] rfl hL_ ?_; (with_reducible refine (sleuthref12_TrailMay.calls k _ _ l0_0 false _ ?s1 ?s2 A4.out).mono ?_); (case s1 => exact cB_ HR0_0.out); (case s2 => exact HC0_0.out); rintro e w5 ⟨rfl, hb⟩; refine ⟨_, rfl, ?_⟩; replace B0 := a_ (bB_ B0.out hb); replace HB := a_ (below_step hC_ hb); (try clear hb); (try clear hb2); (try clear hk); (try clear hi)))
   go_meet
   case rel => exact ⟨_, (true), hW_, H', ⟨by first | omega | exact Nat.le_refl _⟩, ⟨(hK_ B0.out)⟩, ⟨hC_⟩⟩
  subst c5
  rw [if_pos rfl] at H
  have H' := a_ H
  clear H
  obtain ⟨z3, z4, z5, f5, f6, f7⟩ := bx3_ B0.out
  go_wp2_with (first | ((with_reducible refine gate_callee (f := 18) rfl ?_); refine goesL_ (some 9) rfl rfl Tryz.func18 (by kernel_rfl) rfl #[.slice A0_0 l0_0.length c0_0] rfl hL_ ?_; (with_reducible refine (sleuthref12_TrailMay.calls k _ _ l0_0 true _ ?s1 ?s2 A4.out).mono ?_); (case s1 => exact cB_ HR0_0.out); (case s2 => exact HC0_0.out); rintro e w7 ⟨rfl, hb⟩; refine ⟨_, rfl, ?_⟩; replace B0 := a_ (bB_ B0.out hb); replace HB := a_ (below_step hC_ hb); (try clear hb); (try clear hb2); (try clear hk); (try clear hi); obtain ⟨z6, z7, z8, f8, f9, f10⟩ := bx3_ B0.out))
  go_meet
  case rel => exact ⟨_, (decide ((l0_2.length : Int) > 512)), hW_, H', ⟨by first | omega | exact Nat.le_refl _⟩, ⟨(hK_ B0.out)⟩, ⟨hC_⟩⟩
 case rest =>
  clear HC2
  try clear c1
  try clear p2
  try clear c4
  try clear c5
  try clear z3
  try clear z4
  try clear z5
  try clear z6
  try clear z7
  try clear z8
  try clear z0
  try clear z1
  try clear z2
  try clear f5
  try clear f6
  try clear f7
  try clear f8
  try clear f9
  try clear f10
  try clear f2
  try clear f3
  try clear f4
  obtain ⟨kq, x2, rfl, HA, HJ1, B0, HB⟩ := hcut
  cases kq with
  | zero => exact absurd HA.out (by simp [sleuthref12_Marks.j0])
  | succ kj1 =>
   have H := HA.out
   clear HA
   simp only [sleuthref12_Marks.j0] at H
   by_cases c11 : x2 = true
   case pos =>
    subst c11
    rw [if_pos rfl] at H
    simp only [Option.some.injEq, Prod.mk.injEq] at H
    obtain ⟨rfl, rfl⟩ := H
    go_wp2
    go_ret2
    exact ⟨_, hV_, by first | exact Kd.R_nil _ _ _ _ _ | exact Kd.N_nil _ _ _ _ _ | exact Kd.V_nil _ _ _ _ _ | exact Kd.Q_nil _ _ _ _ _ | exact Kd.S_nil _ _ _ _ _, hC_⟩
   replace c11 := Bool.eq_false_iff.mpr c11
   subst c11
   rw [if_neg (show ¬ (false = true) by decide)] at H
   replace H := ifI_ H; obtain ⟨c12, H⟩ := H
   have c12b0 := eq_true c12
   have c12b1 : decide (0 ≤ (l0_0.length : Int)) = true := decide_eq_true c12
   clear c12
   replace H := ifI_ H; obtain ⟨c13, H⟩ := H
   have c13b0 := eq_true c13
   have c13b1 : decide (((l0_0.length : Int) : Int).toNat ≤ 35184372088832) = true := decide_eq_true c13
   clear c13
   obtain ⟨y1, i0⟩ : ∃ y_ : List Int, y_ = (List.replicate ((l0_0.length : Int) : Int).toNat 0) := ⟨_, rfl⟩
   replace H : (sleuthref12_Marks.l0 kj1 y1 0 l0_0 a0_1 l0_2) = some (r1, r2) := by first | (rw [i0]; with_reducible exact H) | (have H2_ := (Option.bind_some _ _).symm.trans H; rw [i0]; with_reducible exact H2_) | (have H2_ := (Option.bind_some _ _).symm.trans H; with_reducible exact H2_) | with_reducible exact H | (rw [i0]; exact H) | exact H
   have Y0 := a_ i0
   clear i0
   have H' := a_ H
   clear H
   obtain ⟨z9, z10, z11, f11, f12, f13⟩ := bx3_ B0.out
   go_wp2_with (first | ((with_reducible refine gate_dst (N := 20) rfl ?_); (try (refine gate_guard (by rfl) ?_; dsimp only)); refine Kd.R_make (Kd.int .i64) _ 3 rfl (N := 20) rfl 41 _ _ rfl (l0_0.length : Int) rfl rfl Tryz.underlying41 (.int .i64 0) 8 info3 rfl (by decide) (by omega) 0 (ok := fun _ => True) (okp := fun _ => True) rfl (fun _ hk => hk) trivial (of_decide_eq_true hA_) (Nat.le_trans (Nat.mul_le_mul_right _ (of_decide_eq_true hA_ : (l0_0.length : Int).toNat ≤ 35184372088832)) (by omega)) (Below.refl _ _) (Nat.le_refl _) ?_; intro v0 w6 ho16 hb hg_ hnew_; clear hg_ hnew_; (first | rw [← Y0.out] at ho16 | (simp only [Int.reduceToNat] at ho16; rw [← Y0.out] at ho16)); have P0 := a_ (Kd.R_lower ho16 (below_size hC_)); replace B0 := a_ (bB_ B0.out hb); replace HB := a_ (below_step hC_ hb); clear hb ho16))
   go_loopg [5] kj1 (fun kq v5 w' => ∃ (x1 : List Int) (x0 : Int), v5 = .int .i64 x0 ∧ Aside0 (sleuthref12_Marks.l0 kq x1 x0 l0_0 a0_1 l0_2 = some (r1, r2)) ∧ Aside0 (kq ≤ kj1) ∧ Aside0 (Kd.R (Kd.int .i64) 3 w' w.heap.size (fun _ => True) v0 x1) ∧ Aside0 (w'.heap[g1]? = some (.cells #[(.slice A0_0 l0_0.length c0_0), .int .i64 a0_1, (.slice A0_2 l0_2.length c0_2)] 25 (0, 0))) ∧ Aside0 (Below w.heap.size w w'))
   case atStart => exact ⟨(y1), (0), hW_, H', ⟨Nat.le_refl _⟩, ⟨hR_ P0.out⟩, ⟨(hK_ B0.out)⟩, ⟨hC_⟩⟩
   case round =>
    clear H'
    try clear c1
    try clear p2
    try clear c4
    try clear c5
    try clear c11
    try clear c12
    try clear c12b0
    try clear c12b1
    try clear c13
    try clear c13b0
    try clear c13b1
    try clear z9
    try clear z10
    try clear z11
    try clear z3
    try clear z4
    try clear z5
    try clear z6
    try clear z7
    try clear z8
    try clear z0
    try clear z1
    try clear z2
    try clear f11
    try clear f12
    try clear f13
    try clear f5
    try clear f6
    try clear f7
    try clear f8
    try clear f9
    try clear f10
    try clear f2
    try clear f3
    try clear f4
    try clear p2
    obtain ⟨x1, x0, rfl, HA, HK2, O0, B0, HB⟩ := hrel
    cases gk with
    | zero => exact absurd HA.out (by simp [sleuthref12_Marks.l0])
    | succ k2 =>
     have H := HA.out
     clear HA
     simp only [sleuthref12_Marks.l0] at H
     by_cases c17 : x0 < (l0_2.length : Int)
     case neg =>
      rw [if_neg c17] at H
      have c17b0 : decide (x0 < (l0_2.length : Int)) = false := decide_eq_false c17
      clear c17
      simp only [Option.some.injEq, Prod.mk.injEq] at H
      obtain ⟨rfl, rfl⟩ := H
      obtain ⟨z12, z13, z14, f14, f15, f16⟩ := bx3_ B0.out
      go_wp2
      go_ret2
      exact ⟨_, hV_, hR_ O0.out, hC_⟩
     rw [if_pos c17] at H
     have c17b0 : decide (x0 < (l0_2.length : Int)) = true := decide_eq_true c17
     clear c17
     replace H := ifI_ H; obtain ⟨c18, H⟩ := H
     have c18b0 : decide (0 ≤ x0) = true := decide_eq_true c18
     clear c18
     replace H := Option.bind_eq_some_iff.mp H
     obtain ⟨t1, A190, H⟩ := H
     try dsimp only at H
     have A19 := a_ A190
     clear A190
     by_cases c20 : t1 = true
     case neg =>
      replace c20 := Bool.eq_false_iff.mpr c20
      subst c20
      rw [if_neg (show ¬ (false = true) by decide)] at H
      simp only [Option.some.injEq, Prod.mk.injEq] at H
      obtain ⟨rfl, rfl⟩ := H
      obtain ⟨z15, z16, z17, f17, f18, f19⟩ := bx3_ B0.out
      have p430 : 0 ≤ (x0 : Int) := of_decide_eq_true hA_
      have q430 : x0 < (l0_2.length : Int) := of_decide_eq_true hA_
      obtain ⟨d0, e430, h0, h1⟩ := at_T53 HR0_2.out x0 p430 q430
      cases e430
      replace h0 := cl_ HB.out h0
      replace h1 := cl_ HB.out h1
      replace p430 := eq_true p430
      replace q430 := eq_true q430
      go_wp2_with (first | ((with_reducible refine gate_dst (N := 6) rfl ?_); (try (refine gate_guard (by rfl) ?_; dsimp only)); refine boxE_ 6 #[.int .i64 0, .int .i64 0] 53 ?_; intro g0 hg w8 hbox hb; replace O0 := a_ (Kd.R_below (hR_ O0.out) hb); have B1 := a_ (hbox); have E0 := a_ ((gE_ hg : w.heap.size ≤ g0)); replace HB := a_ (below_step hC_ hb); have N0 := a_ ((bL_ B0.out hg : g1 ≠ g0)); have N1 := a_ ((bG_ B0.out hg : g0 ≠ g1)); replace B0 := a_ (bB_ B0.out hb); clear hb hbox hg; have m0 := N1.out; have n0 := N0.out; obtain ⟨z18, z19, f20, f21⟩ := bx2_ B1.out; obtain ⟨z20, z21, z22, f22, f23, f24⟩ := bx3_ B0.out) | ((with_reducible refine gate_callee (f := 32) rfl ?_); refine goesL_ _ rfl rfl Tryz.func32 (by kernel_rfl) rfl #[.int .i64 ((rd_T53 l0_2 x0).f0), .int .i64 0, .int .i64 (wrap64 ((l0_0.length : Int) - 1))] rfl hL_ ?_; (with_reducible refine (sleuthref12_upTo.calls ((rd_T53 l0_2 x0).f0) 0 (wrap64 ((l0_0.length : Int) - 1)) false _ A19.out).mono ?_); rintro e w' ⟨rfl, ⟨nd, rfl⟩⟩; refine ⟨_, rfl, ?_⟩))
      go_ret2
      exact ⟨_, hV_, by first | exact Kd.R_nil _ _ _ _ _ | exact Kd.N_nil _ _ _ _ _ | exact Kd.V_nil _ _ _ _ _ | exact Kd.Q_nil _ _ _ _ _ | exact Kd.S_nil _ _ _ _ _, hC_⟩
     subst c20
     rw [if_pos rfl] at H
     replace H := Option.bind_eq_some_iff.mp H
     obtain ⟨t2, A210, H⟩ := H
     try dsimp only at H
     have A21 := a_ A210
     clear A210
     by_cases c22 : t2 = true
     case neg =>
      replace c22 := Bool.eq_false_iff.mpr c22
      subst c22
      rw [if_neg (show ¬ (false = true) by decide)] at H
      simp only [Option.some.injEq, Prod.mk.injEq] at H
      obtain ⟨rfl, rfl⟩ := H
      obtain ⟨z23, z24, z25, f25, f26, f27⟩ := bx3_ B0.out
      have p430 : 0 ≤ (x0 : Int) := of_decide_eq_true hA_
      have q430 : x0 < (l0_2.length : Int) := of_decide_eq_true hA_
      obtain ⟨d0, e430, h0, h1⟩ := at_T53 HR0_2.out x0 p430 q430
      cases e430
      replace h0 := cl_ HB.out h0
      replace h1 := cl_ HB.out h1
      replace p430 := eq_true p430
      replace q430 := eq_true q430
      go_wp2_with (first | ((with_reducible refine gate_dst (N := 6) rfl ?_); (try (refine gate_guard (by rfl) ?_; dsimp only)); refine boxE_ 6 #[.int .i64 0, .int .i64 0] 53 ?_; intro g0 hg w9 hbox hb; replace O0 := a_ (Kd.R_below (hR_ O0.out) hb); have B1 := a_ (hbox); have E0 := a_ ((gE_ hg : w.heap.size ≤ g0)); replace HB := a_ (below_step hC_ hb); have N0 := a_ ((bL_ B0.out hg : g1 ≠ g0)); have N1 := a_ ((bG_ B0.out hg : g0 ≠ g1)); replace B0 := a_ (bB_ B0.out hb); clear hb hbox hg; have m1 := N1.out; have n1 := N0.out; obtain ⟨z26, z27, f28, f29⟩ := bx2_ B1.out; obtain ⟨z28, z29, z30, f30, f31, f32⟩ := bx3_ B0.out) | ((with_reducible refine gate_callee (f := 32) rfl ?_); refine goesL_ _ rfl rfl Tryz.func32 (by kernel_rfl) rfl #[.int .i64 ((rd_T53 l0_2 x0).f0), .int .i64 0, .int .i64 (wrap64 ((l0_0.length : Int) - 1))] rfl hL_ ?_; (with_reducible refine (sleuthref12_upTo.calls ((rd_T53 l0_2 x0).f0) 0 (wrap64 ((l0_0.length : Int) - 1)) true _ A19.out).mono ?_); rintro e w' ⟨rfl, ⟨nd, rfl⟩⟩; refine ⟨_, rfl, ?_⟩) | (go_at_call 25; (with_reducible refine (sleuthref12_markMay.calls ((rd_T53 l0_2 x0).f1) false _ A21.out).mono ?_); rintro e w' ⟨rfl, ⟨nd, rfl⟩⟩))
      go_ret2
      exact ⟨_, hV_, by first | exact Kd.R_nil _ _ _ _ _ | exact Kd.N_nil _ _ _ _ _ | exact Kd.V_nil _ _ _ _ _ | exact Kd.Q_nil _ _ _ _ _ | exact Kd.S_nil _ _ _ _ _, hC_⟩
     subst c22
     rw [if_pos rfl] at H
     replace H := ifI_ H; obtain ⟨c23, H⟩ := H
     have c23b0 : decide (0 ≤ ((rd_T53 l0_2 x0).f0)) = true := decide_eq_true c23
     clear c23
     replace H := ifI_ H; obtain ⟨c24, H⟩ := H
     have c24b0 : decide (((rd_T53 l0_2 x0).f0) < (x1.length : Int)) = true := decide_eq_true c24
     clear c24
     obtain ⟨y0, i1⟩ : ∃ y_ : List Int, y_ = (x1.set (((rd_T53 l0_2 x0).f0) : Int).toNat ((rd_T53 l0_2 x0).f1)) := ⟨_, rfl⟩
     replace H : (sleuthref12_Marks.l0 k2 y0 (wrap64 (x0 + 1)) l0_0 a0_1 l0_2) = some (r1, r2) := by first | (rw [i1]; with_reducible exact H) | (have H2_ := (Option.bind_some _ _).symm.trans H; rw [i1]; with_reducible exact H2_) | (have H2_ := (Option.bind_some _ _).symm.trans H; with_reducible exact H2_) | with_reducible exact H | (rw [i1]; exact H) | exact H
     have Y1 := a_ i1
     clear i1
     have H' := a_ H
     clear H
     obtain ⟨z31, z32, z33, f33, f34, f35⟩ := bx3_ B0.out
     have p430 : 0 ≤ (x0 : Int) := of_decide_eq_true hA_
     have q430 : x0 < (l0_2.length : Int) := of_decide_eq_true hA_
     obtain ⟨d0, e430, h0, h1⟩ := at_T53 HR0_2.out x0 p430 q430
     cases e430
     replace h0 := cl_ HB.out h0
     replace h1 := cl_ HB.out h1
     replace p430 := eq_true p430
     replace q430 := eq_true q430
     go_wp2_with (first | ((with_reducible refine gate_dst (N := 6) rfl ?_); (try (refine gate_guard (by rfl) ?_; dsimp only)); refine boxE_ 6 #[.int .i64 0, .int .i64 0] 53 ?_; intro g0 hg w4 hbox hb; replace O0 := a_ (Kd.R_below (hR_ O0.out) hb); have B1 := a_ (hbox); have E0 := a_ ((gE_ hg : w.heap.size ≤ g0)); replace HB := a_ (below_step hC_ hb); have N0 := a_ ((bL_ B0.out hg : g1 ≠ g0)); have N1 := a_ ((bG_ B0.out hg : g0 ≠ g1)); replace B0 := a_ (bB_ B0.out hb); clear hb hbox hg; have m2 := N1.out; have n2 := N0.out; obtain ⟨z34, z35, f36, f37⟩ := bx2_ B1.out) | ((with_reducible refine gate_store (t := 53) (p := 6) rfl ?_); refine store_event (t := 53) (p := 6) (v := ?vo_w30) (w1 := ((w4.setCell ⟨g0, 0, none⟩ (.int .i64 ((rd_T53 l0_2 x0).f0))).setCell ⟨g0, 1, none⟩ (.int .i64 ((rd_T53 l0_2 x0).f1)))) ?hg ?ho ?hn ?hr ?_; (case ho => rfl); (case hg => rfl); (case hn => rfl); (case hr => first | (go_simp; done) | (go_simp; rfl)); intro w0 hw; replace O0 : Aside0 (Kd.R (Kd.int .i64) 3 w0 w.heap.size (fun _ => True) v0 x1) := ⟨(by rw [hw]; exact (by (with_reducible repeat (first | apply Kd.R_alloc | apply Kd.R_drewN | apply Kd.R_drew)); exact Kd.R_mono (rF_ (rF_ (Kd.R_types O0.out B1.out (by decide)))) (fun _ hk => trivial)))⟩; replace B0 : Aside0 (w0.heap[g1]? = some (.cells #[.slice A0_0 l0_0.length c0_0, .int .i64 a0_1, .slice (some d0) l0_2.length c0_2] 25 (0, 0))) := ⟨(by rw [hw]; exact (bF_ (bF_ (hK_ B0.out) N0.out) N0.out))⟩; replace B1 : Aside0 (w0.heap[g0]? = some (.cells #[.int .i64 ((rd_T53 l0_2 x0).f0), .int .i64 ((rd_T53 l0_2 x0).f1)] 53 (0, 0))) := ⟨(by rw [hw]; exact (bP_ (bP_ (hK_ B1.out))))⟩; replace HB : Aside0 (Below w.heap.size w w0) := ⟨(by rw [hw]; exact hC_)⟩; clear hw; obtain ⟨z36, z37, f38, f39⟩ := bx2_ B1.out; obtain ⟨z38, z39, z40, f40, f41, f42⟩ := bx3_ B0.out) | ((with_reducible refine gate_callee (f := 32) rfl ?_); refine goesL_ _ rfl rfl Tryz.func32 (by kernel_rfl) rfl #[.int .i64 ((rd_T53 l0_2 x0).f0), .int .i64 0, .int .i64 (wrap64 ((l0_0.length : Int) - 1))] rfl hL_ ?_; (with_reducible refine (sleuthref12_upTo.calls ((rd_T53 l0_2 x0).f0) 0 (wrap64 ((l0_0.length : Int) - 1)) true _ A19.out).mono ?_); rintro e w' ⟨rfl, ⟨nd, rfl⟩⟩; refine ⟨_, rfl, ?_⟩; (try (rw [drewN_self w0]; generalize hq_ : World.drewN w0 _ = w0; replace O0 : Aside0 (Kd.R (Kd.int .i64) 3 w0 w.heap.size (fun _ => True) v0 x1) := ⟨by rw [← hq_]; exact (hR_ O0.out)⟩; replace B0 : Aside0 (w0.heap[g1]? = some (.cells #[.slice A0_0 l0_0.length c0_0, .int .i64 a0_1, .slice (some d0) l0_2.length c0_2] 25 (0, 0))) := ⟨by rw [← hq_]; exact (hK_ B0.out)⟩; replace B1 : Aside0 (w0.heap[g0]? = some (.cells #[.int .i64 ((rd_T53 l0_2 x0).f0), .int .i64 ((rd_T53 l0_2 x0).f1)] 53 (0, 0))) := ⟨by rw [← hq_]; exact (hK_ B1.out)⟩; replace HB : Aside0 (Below w.heap.size w w0) := ⟨by rw [← hq_]; exact hC_⟩; clear hq_; (try have hcu0_0 := bc0_ B0.out); (try have hfu0_0 := blk_frozen B0.out 0); (try have hcu0_1 := bc1_ B0.out); (try have hfu0_1 := blk_frozen B0.out 1); (try have hcu0_2 := bc2_ B0.out); (try have hfu0_2 := blk_frozen B0.out 2); (try have hcu1_0 := bc0_ B1.out); (try have hfu1_0 := blk_frozen B1.out 0); (try have hcu1_1 := bc1_ B1.out); (try have hfu1_1 := blk_frozen B1.out 1)))) | (go_at_call 25; (with_reducible refine (sleuthref12_markMay.calls ((rd_T53 l0_2 x0).f1) true _ A21.out).mono ?_); rintro e w' ⟨rfl, ⟨nd, rfl⟩⟩; (try (rw [drewN_self w0]; generalize hq_ : World.drewN w0 _ = w0; replace O0 : Aside0 (Kd.R (Kd.int .i64) 3 w0 w.heap.size (fun _ => True) v0 x1) := ⟨by rw [← hq_]; exact (hR_ O0.out)⟩; replace B0 : Aside0 (w0.heap[g1]? = some (.cells #[.slice A0_0 l0_0.length c0_0, .int .i64 a0_1, .slice (some d0) l0_2.length c0_2] 25 (0, 0))) := ⟨by rw [← hq_]; exact (hK_ B0.out)⟩; replace B1 : Aside0 (w0.heap[g0]? = some (.cells #[.int .i64 ((rd_T53 l0_2 x0).f0), .int .i64 ((rd_T53 l0_2 x0).f1)] 53 (0, 0))) := ⟨by rw [← hq_]; exact (hK_ B1.out)⟩; replace HB : Aside0 (Below w.heap.size w w0) := ⟨by rw [← hq_]; exact hC_⟩; clear hq_; (try have hcu0_0 := bc0_ B0.out); (try have hfu0_0 := blk_frozen B0.out 0); (try have hcu0_1 := bc1_ B0.out); (try have hfu0_1 := blk_frozen B0.out 1); (try have hcu0_2 := bc2_ B0.out); (try have hfu0_2 := blk_frozen B0.out 2); (try have hcu1_0 := bc0_ B1.out); (try have hfu1_0 := blk_frozen B1.out 0); (try have hcu1_1 := bc1_ B1.out); (try have hfu1_1 := blk_frozen B1.out 1))); have p25 : 0 ≤ (((rd_T53 l0_2 x0).f0) : Int) := of_decide_eq_true hA_; have q25 : (((rd_T53 l0_2 x0).f0) : Int) < ((x1.length : Int) : Int) := of_decide_eq_true hA_; obtain ⟨j1, o0, e0, g2, gl25, cl25, HG25⟩ := Kd.R_form O0.out (by omega); (first | cases e0 | (injection e0 with ea_ en_ ec_; (first | subst ea_ | (injection ea_ with ea_; subst ea_)); subst ec_; clear en_)); have J0 := a_ g2; have K0 := a_ HG25; clear g2 gl25 HG25; obtain ⟨h2, hf25_0⟩ := Kd.R_celln 0 O0.out (((rd_T53 l0_2 x0).f0) : Int) p25 q25; replace p25 := eq_true p25; replace q25 := eq_true q25; obtain ⟨hy33_, hz33_⟩ := Kd.R_celln 0 O0.out (((rd_T53 l0_2 x0).f0) : Int) (of_decide_eq_true hA_) (of_decide_eq_true hA_); have HP33 := Kd.R_putg O0.out (((rd_T53 l0_2 x0).f0) : Int) ((rd_T53 l0_2 x0).f1)) | ((with_reducible refine gate_store (t := 3) (p := 52) rfl ?_); refine store_event (t := 3) (p := 52) (v := ?vo_w34) (w1 := (w0.setCell ⟨j1, (((rd_T53 l0_2 x0).f0) : Int).toNat, none⟩ (.int .i64 ((rd_T53 l0_2 x0).f1)))) ?hg ?ho ?hn ?hr ?_; (case ho => rfl); (case hg => rfl); (case hn => rfl); (case hr => first | (go_simp; done) | (go_simp; rfl)); intro w2 hw; have hg : w0.grownBy w2 (some j1) := (by rw [hw]; exact HP33.2); have hp_ : Kd.R (Kd.int .i64) 3 w2 w.heap.size (fun _ => True) (.slice (some ⟨j1, 0, none⟩) x1.length o0) y0 := (by rw [hw, Y1.out]; exact HP33.1); clear HP33; replace B0 := a_ (blk_grown (hK_ B0.out) hg (Kd.R_ne O0.out B0.out (by decide))); replace B1 := a_ (blk_grown (hK_ B1.out) hg (Kd.R_ne O0.out B1.out (by decide))); replace O0 := a_ (hp_); replace HB := a_ ((by rw [hw]; exact below_set (HB.out) J0.out : Below w.heap.size w w2)); clear hg hw hp_))
     go_roundg k2
     case measure => have := HJ1.out; have := HK2.out; omega
     case rel => exact ⟨(y0), (wrap64 (x0 + 1)), hW_, H', ⟨by have := HJ1.out; have := HK2.out; omega⟩, ⟨hR_ O0.out⟩, ⟨(hK_ B0.out)⟩, ⟨hC_⟩⟩
set_option maxHeartbeats 8000000
set_option maxRecDepth 100000
attribute [local go_sem] max2_int min2_int max_two min_two max_three min_three max_four min_four   -- for this text's walks alone
set_option linter.unusedVariables false
set_option linter.unusedSimpArgs false

def sleuthref12_Step.f (k : Nat) (l0_0 : List (S66)) (a0_1 : Int) (l0_2 : List (S53)) : Option (Int × Int × Int) := (sleuthref12_Marks.f k l0_0 a0_1 l0_2).bind fun bt437 => (if bt437.2 = 0 then ((sleuthref12_upTo.f a0_1 0 1).bind fun t441 => (if t441 = true then ((sleuthref12_asks.f k l0_0 a0_1 bt437.1).bind fun bt442 => (some (bt442.1, bt442.2, 0))) else (some (0, 0, 2000)))) else (some (0, 0, 2000)))
theorem sleuthref12_Step.calls (k : Nat) (A0_0 : Option Addr) (c0_0 : Nat) (l0_0 : List (S66)) (a0_1 : Int) (A0_2 : Option Addr) (c0_2 : Nat) (l0_2 : List (S53)) (r1 : Int) (r2 : Int) (r3 : Int) (w : World) (hr0_0 : Kd.C k66 w A0_0 l0_0.length l0_0) (hc0_0 : l0_0.length ≤ c0_0) (hr0_2 : Kd.C k53 w A0_2 l0_2.length l0_2) (hc0_2 : l0_2.length ≤ c0_2) (h : sleuthref12_Step.f k l0_0 a0_1 l0_2 = some (r1, r2, r3)) :
 Calls Tryz.prog 26 #[.agg #[.slice A0_0 l0_0.length c0_0, .int .i64 a0_1, .slice A0_2 l0_2.length c0_2]] w fun e w' => e = .returned (.tuple #[.agg #[.int .i64 r1, .int .i64 r2], .int .i64 r3]) ∧ Below w.heap.size w w' := by
 have hu25 := Tryz.underlying25
 have hu49 := Tryz.underlying49
 have HR0_0 := a_ hr0_0
 have HC0_0 := a_ hc0_0
 clear hr0_0 hc0_0
 have HR0_2 := a_ hr0_2
 have HC0_2 := a_ hc0_2
 clear hr0_2 hc0_2
 have HB := a_ (Below.refl w.heap.size w)
 have H := h; unfold sleuthref12_Step.f at H
 clear h
 replace H := Option.bind_eq_some_iff.mp H
 obtain ⟨⟨t1, t0⟩, A20, H⟩ := H
 try dsimp only at H
 have A2 := a_ A20
 clear A20
 by_cases c3 : t0 = 0
 case neg =>
  rw [if_neg c3] at H
  have c3b0 : (t0 == 0) = false := beq_eq_false_iff_ne.mpr c3
  have c3b1 : (t0 != 0) = true := bne_iff_ne.mpr c3
  simp only [Option.some.injEq, Prod.mk.injEq] at H
  obtain ⟨rfl, rfl, rfl⟩ := H
  go_enter Tryz.func26, Tryz.ntmps26
  go_wp2_with (first | ((with_reducible refine gate_dst (N := 1) rfl ?_); refine boxE_ 1 #[.slice A0_0 l0_0.length c0_0, .int .i64 a0_1, .slice A0_2 l0_2.length c0_2] 25 ?_; intro g1 hg w2 hbox hb; have B0 := a_ (hbox); have E0 := a_ ((gE_ hg : w.heap.size ≤ g1)); replace HB := a_ (below_step hB_ hb); clear hb hbox hg) | ((with_reducible refine gate_dst (N := 2) rfl ?_); refine boxE_ 2 #[.int .i64 0, .int .i64 0] 49 ?_; intro g0 hg w3 hbox hb; have B1 := a_ (hbox); have E1 := a_ ((gE_ hg : w.heap.size ≤ g0)); replace HB := a_ (below_step hC_ hb); have N0 := a_ ((bL_ B0.out hg : g1 ≠ g0)); have N1 := a_ ((bG_ B0.out hg : g0 ≠ g1)); replace B0 := a_ (bB_ B0.out hb); clear hb hbox hg; have m0 := N0.out; have n0 := N1.out; obtain ⟨z0, z1, z2, f0, f1, f2⟩ := bx3_ B0.out) | ((with_reducible refine gate_callee (f := 43) rfl ?_); refine goesL_ (some 8) rfl rfl Tryz.func43 (by kernel_rfl) rfl #[.agg #[.slice A0_0 l0_0.length c0_0, .int .i64 a0_1, .slice A0_2 l0_2.length c0_2]] rfl hL_ ?_; (with_reducible refine (sleuthref12_Marks.calls k _ _ l0_0 a0_1 _ _ l0_2 t1 t0 _ ?s1 ?s2 ?s3 ?s4 A2.out).mono ?_); (case s1 => exact cB_ HR0_0.out); (case s2 => exact HC0_0.out); (case s3 => exact cB_ HR0_2.out); (case s4 => exact HC0_2.out); rintro e w4 ⟨v0, rfl, ho0, hb⟩; refine ⟨_, rfl, ?_⟩; have P0 := a_ (Kd.R_lower ho0 (below_size hC_)); replace B0 := a_ (bB_ B0.out hb); replace B1 := a_ (bB_ B1.out hb); replace HB := a_ (below_step hC_ hb); (try clear hb); (try clear hb2); (try clear hk); (try clear hi); (try clear ho0); obtain ⟨z3, z4, f3, f4⟩ := bx2_ B1.out))
  refine bodyPost_ret (results_ct rfl _ _ g0 49 #[.int .i64 0, .int .i64 0] (0, 0) _ rfl (bP_ (bP_ (hK_ B1.out))) Tryz.underlying49 rfl (by kernel_rfl)) rfl ?_
  exact ⟨hV_, hC_⟩

 rw [if_pos c3] at H
 have c3b0 : (t0 == 0) = true := beq_iff_eq.mpr c3
 have c3b1 : (t0 != 0) = false := bne_eq_false_iff_eq.mpr c3
 clear c3
 replace H := Option.bind_eq_some_iff.mp H
 obtain ⟨t4, A40, H⟩ := H
 try dsimp only at H
 have A4 := a_ A40
 clear A40
 by_cases c5 : t4 = true
 case neg =>
  replace c5 := Bool.eq_false_iff.mpr c5
  subst c5
  rw [if_neg (show ¬ (false = true) by decide)] at H
  simp only [Option.some.injEq, Prod.mk.injEq] at H
  obtain ⟨rfl, rfl, rfl⟩ := H
  go_enter Tryz.func26, Tryz.ntmps26
  go_wp2_with (first | ((with_reducible refine gate_dst (N := 1) rfl ?_); refine boxE_ 1 #[.slice A0_0 l0_0.length c0_0, .int .i64 a0_1, .slice A0_2 l0_2.length c0_2] 25 ?_; intro g1 hg w5 hbox hb; have B0 := a_ (hbox); have E0 := a_ ((gE_ hg : w.heap.size ≤ g1)); replace HB := a_ (below_step hB_ hb); clear hb hbox hg) | ((with_reducible refine gate_dst (N := 2) rfl ?_); refine boxE_ 2 #[.int .i64 0, .int .i64 0] 49 ?_; intro g0 hg w6 hbox hb; have B1 := a_ (hbox); have E1 := a_ ((gE_ hg : w.heap.size ≤ g0)); replace HB := a_ (below_step hC_ hb); have N0 := a_ ((bL_ B0.out hg : g1 ≠ g0)); have N1 := a_ ((bG_ B0.out hg : g0 ≠ g1)); replace B0 := a_ (bB_ B0.out hb); clear hb hbox hg; have m1 := N0.out; have n1 := N1.out; obtain ⟨z5, z6, z7, f5, f6, f7⟩ := bx3_ B0.out) | ((with_reducible refine gate_callee (f := 43) rfl ?_); refine goesL_ _ rfl rfl Tryz.func43 (by kernel_rfl) rfl #[.agg #[.slice A0_0 l0_0.length c0_0, .int .i64 a0_1, .slice A0_2 l0_2.length c0_2]] rfl hL_ ?_; (with_reducible refine (sleuthref12_Marks.calls k _ _ l0_0 a0_1 _ _ l0_2 t1 t0 _ ?s1 ?s2 ?s3 ?s4 A2.out).mono ?_); (case s1 => exact cB_ HR0_0.out); (case s2 => exact HC0_0.out); (case s3 => exact cB_ HR0_2.out); (case s4 => exact HC0_2.out); rintro e w0 ⟨v0, rfl, ho0, hb⟩; refine ⟨_, rfl, ?_⟩; have P0 := a_ (Kd.R_lower ho0 (below_size hC_)); replace B0 := a_ (bB_ B0.out hb); replace B1 := a_ (bB_ B1.out hb); replace HB := a_ (below_step hC_ hb); (try clear hb); (try clear hb2); (try clear hk); (try clear hi); (try clear ho0); obtain ⟨z8, z9, z10, f8, f9, f10⟩ := bx3_ B0.out) | (go_at_call 32; (with_reducible refine (sleuthref12_upTo.calls a0_1 0 1 false _ A4.out).mono ?_); rintro e w' ⟨rfl, ⟨nd, rfl⟩⟩; (try (rw [drewN_self w0]; generalize hq_ : World.drewN w0 _ = w0; replace P0 : Aside0 (Kd.R (Kd.int .i64) 3 w0 w.heap.size (fun _ => True) v0 t1) := ⟨by rw [← hq_]; exact (hR_ P0.out)⟩; replace B0 : Aside0 (w0.heap[g1]? = some (.cells #[.slice A0_0 l0_0.length c0_0, .int .i64 a0_1, .slice A0_2 l0_2.length c0_2] 25 (0, 0))) := ⟨by rw [← hq_]; exact (hK_ B0.out)⟩; replace B1 : Aside0 (w0.heap[g0]? = some (.cells #[.int .i64 0, .int .i64 0] 49 (0, 0))) := ⟨by rw [← hq_]; exact (hK_ B1.out)⟩; replace HB : Aside0 (Below w.heap.size w w0) := ⟨by rw [← hq_]; exact hC_⟩; clear hq_; (try have hcu0_0 := bc0_ B0.out); (try have hfu0_0 := blk_frozen B0.out 0); (try have hcu0_1 := bc1_ B0.out); (try have hfu0_1 := blk_frozen B0.out 1); (try have hcu0_2 := bc2_ B0.out); (try have hfu0_2 := blk_frozen B0.out 2); (try have hcu1_0 := bc0_ B1.out); (try have hfu1_0 := blk_frozen B1.out 0); (try have hcu1_1 := bc1_ B1.out); (try have hfu1_1 := blk_frozen B1.out 1))); obtain ⟨z11, z12, f11, f12⟩ := bx2_ B1.out))
  refine bodyPost_ret (results_ct rfl _ _ g0 49 #[.int .i64 0, .int .i64 0] (0, 0) _ rfl (bP_ (bP_ (hK_ B1.out))) Tryz.underlying49 rfl (by kernel_rfl)) rfl ?_
  exact ⟨hV_, hC_⟩
 subst c5
 rw [if_pos rfl] at H
 replace H := Option.bind_eq_some_iff.mp H
 obtain ⟨⟨t2, t3⟩, A60, H⟩ := H
 try dsimp only at H
 have A6 := a_ A60
 clear A60
 simp only [Option.some.injEq, Prod.mk.injEq] at H
 obtain ⟨rfl, rfl, rfl⟩ := H
 go_enter Tryz.func26, Tryz.ntmps26
 go_wp2_with (first | ((with_reducible refine gate_dst (N := 1) rfl ?_); refine boxE_ 1 #[.slice A0_0 l0_0.length c0_0, .int .i64 a0_1, .slice A0_2 l0_2.length c0_2] 25 ?_; intro g1 hg w7 hbox hb; have B0 := a_ (hbox); have E0 := a_ ((gE_ hg : w.heap.size ≤ g1)); replace HB := a_ (below_step hB_ hb); clear hb hbox hg) | ((with_reducible refine gate_dst (N := 2) rfl ?_); refine boxE_ 2 #[.int .i64 0, .int .i64 0] 49 ?_; intro g0 hg w8 hbox hb; have B1 := a_ (hbox); have E1 := a_ ((gE_ hg : w.heap.size ≤ g0)); replace HB := a_ (below_step hC_ hb); have N0 := a_ ((bL_ B0.out hg : g1 ≠ g0)); have N1 := a_ ((bG_ B0.out hg : g0 ≠ g1)); replace B0 := a_ (bB_ B0.out hb); clear hb hbox hg; have m2 := N0.out; have n2 := N1.out; obtain ⟨z13, z14, z15, f13, f14, f15⟩ := bx3_ B0.out) | ((with_reducible refine gate_callee (f := 43) rfl ?_); refine goesL_ _ rfl rfl Tryz.func43 (by kernel_rfl) rfl #[.agg #[.slice A0_0 l0_0.length c0_0, .int .i64 a0_1, .slice A0_2 l0_2.length c0_2]] rfl hL_ ?_; (with_reducible refine (sleuthref12_Marks.calls k _ _ l0_0 a0_1 _ _ l0_2 t1 t0 _ ?s1 ?s2 ?s3 ?s4 A2.out).mono ?_); (case s1 => exact cB_ HR0_0.out); (case s2 => exact HC0_0.out); (case s3 => exact cB_ HR0_2.out); (case s4 => exact HC0_2.out); rintro e w1 ⟨v0, rfl, ho0, hb⟩; refine ⟨_, rfl, ?_⟩; have P0 := a_ (Kd.R_lower ho0 (below_size hC_)); replace B0 := a_ (bB_ B0.out hb); replace B1 := a_ (bB_ B1.out hb); replace HB := a_ (below_step hC_ hb); (try clear hb); (try clear hb2); (try clear hk); (try clear hi); (try clear ho0); obtain ⟨z16, z17, z18, f16, f17, f18⟩ := bx3_ B0.out) | (go_at_call 32; (with_reducible refine (sleuthref12_upTo.calls a0_1 0 1 true _ A4.out).mono ?_); rintro e w' ⟨rfl, ⟨nd, rfl⟩⟩; (try (rw [drewN_self w1]; generalize hq_ : World.drewN w1 _ = w1; replace P0 : Aside0 (Kd.R (Kd.int .i64) 3 w1 w.heap.size (fun _ => True) v0 t1) := ⟨by rw [← hq_]; exact (hR_ P0.out)⟩; replace B0 : Aside0 (w1.heap[g1]? = some (.cells #[.slice A0_0 l0_0.length c0_0, .int .i64 a0_1, .slice A0_2 l0_2.length c0_2] 25 (0, 0))) := ⟨by rw [← hq_]; exact (hK_ B0.out)⟩; replace B1 : Aside0 (w1.heap[g0]? = some (.cells #[.int .i64 0, .int .i64 0] 49 (0, 0))) := ⟨by rw [← hq_]; exact (hK_ B1.out)⟩; replace HB : Aside0 (Below w.heap.size w w1) := ⟨by rw [← hq_]; exact hC_⟩; clear hq_; (try have hcu0_0 := bc0_ B0.out); (try have hfu0_0 := blk_frozen B0.out 0); (try have hcu0_1 := bc1_ B0.out); (try have hfu0_1 := blk_frozen B0.out 1); (try have hcu0_2 := bc2_ B0.out); (try have hfu0_2 := blk_frozen B0.out 2); (try have hcu1_0 := bc0_ B1.out); (try have hfu1_0 := blk_frozen B1.out 0); (try have hcu1_1 := bc1_ B1.out); (try have hfu1_1 := blk_frozen B1.out 1))); obtain ⟨a0, o0, e0⟩ := Kd.R_slice P0.out; subst e0) | ((with_reducible refine gate_callee (f := 33) rfl ?_); refine goesL_ (some 25) rfl rfl Tryz.func33 (by kernel_rfl) rfl #[.slice A0_0 l0_0.length c0_0, .int .i64 a0_1, .slice a0 t1.length o0] rfl hL_ ?_; (with_reducible refine (sleuthref12_asks.calls k _ _ l0_0 a0_1 _ _ t1 t2 t3 _ ?s1 ?s2 ?s3 ?s4 A6.out).mono ?_); (case s1 => exact cB_ HR0_0.out); (case s2 => exact HC0_0.out); (case s3 => exact cC_ (Kd.R_reads' P0.out).2.2); (case s4 => exact (Kd.R_reads' P0.out).2.1); rintro e w9 ⟨rfl, hb⟩; refine ⟨_, rfl, ?_⟩; replace P0 := a_ (Kd.R_below (hR_ P0.out) hb); replace B0 := a_ (bB_ B0.out hb); replace B1 := a_ (bB_ B1.out hb); replace HB := a_ (below_step hC_ hb); (try clear hb); (try clear hb2); (try clear hk); (try clear hi); obtain ⟨z19, z20, f19, f20⟩ := bx2_ B1.out))
 refine bodyPost_ret (results_ct rfl _ _ g0 49 #[.int .i64 t2, .int .i64 t3] (0, 0) _ rfl (bP_ (bP_ (hK_ B1.out))) Tryz.underlying49 rfl (by kernel_rfl)) rfl ?_
 exact ⟨hV_, hC_⟩
def sleuthref12_CopyNodes.l0 : Nat → List (S66) → List (S66) → Int → Option ((List (S66)))
 | 0, _, _, _ => none
 | k + 1, x0, x3, x4 => if x4 < (x0.length : Int) then (if 0 ≤ x4 then ((some (([] : List ByteArray) : List ByteArray)).bind fun y446 => (if y446.length + ((rd_T66 x0 x4).f2).length < 8796093022208 then (if x3.length < 2513169434916 then (sleuthref12_CopyNodes.l0 k x0 (x3 ++ [(⟨(rd_T66 x0 x4).f0, (rd_T66 x0 x4).f1, (y446 ++ ((rd_T66 x0 x4).f2)), (rd_T66 x0 x4).f3⟩ : S66)]) (wrap64 (x4 + 1))) else (none)) else (none))) else (none)) else (some x3)
def sleuthref12_CopyNodes.f (k : Nat) (l0 : List (S66)) : Option ((List (S66))) := sleuthref12_CopyNodes.l0 k l0 ([] : List (S66)) 0
theorem sleuthref12_CopyNodes.calls (k : Nat) (A0 : Option Addr) (c0 : Nat) (l0 : List (S66)) (r : List (S66)) (w : World) (hr0 : Kd.C k66 w A0 l0.length l0) (hc0 : l0.length ≤ c0) (h : sleuthref12_CopyNodes.f k l0 = some r) :
 Calls Tryz.prog 34 #[.slice A0 l0.length c0] w fun e w' => ∃ v0_ : Value, e = .returned (v0_) ∧ Kd.S k66 66 w' w.heap.size (fun _ => True) v0_ r ∧ Below w.heap.size w w' := by
 have hu66 := Tryz.underlying66
 have HR0 := a_ hr0
 have HC0 := a_ hc0
 clear hr0 hc0
 have HB := a_ (Below.refl w.heap.size w)
 have H : (sleuthref12_CopyNodes.l0 k l0 ([] : List (S66)) 0) = some r := h
 clear h
 have H' := a_ H
 clear H
 go_enter Tryz.func34, Tryz.ntmps34
 go_wp2
 go_loopg [3, 4] k (fun kq v3 v4 w' => ∃ (x1 : List (S66)) (x0 : Int), v4 = .int .i64 x0 ∧ Aside0 (sleuthref12_CopyNodes.l0 kq l0 x1 x0 = some r) ∧ Aside0 (kq ≤ k) ∧ Aside0 (Kd.S k66 66 w' w.heap.size (fun _ => True) v3 x1) ∧ Aside0 (Below w.heap.size w w'))
 case atStart => exact ⟨(([] : List (S66))), (0), hW_, H', ⟨Nat.le_refl _⟩, ⟨by first | exact Kd.S_nil _ _ _ _ _ | exact Kd.N_nil _ _ _ _ _ | exact Kd.V_nil _ _ _ _ _ | exact Kd.Q_nil _ _ _ _ _ | exact Kd.R_nil _ _ _ _ _⟩, ⟨hC_⟩⟩
 case round =>
  clear H'
  obtain ⟨x1, x0, rfl, HA, HK1, O0, HB⟩ := hrel
  cases gk with
  | zero => exact absurd HA.out (by simp [sleuthref12_CopyNodes.l0])
  | succ k1 =>
   have H := HA.out
   clear HA
   simp only [sleuthref12_CopyNodes.l0] at H
   by_cases c2 : x0 < (l0.length : Int)
   case neg =>
    rw [if_neg c2] at H
    have c2b0 : decide (x0 < (l0.length : Int)) = false := decide_eq_false c2
    clear c2
    obtain rfl := Option.some.inj H
    go_wp2
    go_ret
    exact ⟨_, hV_, by (with_reducible repeat (first | apply Kd.S_alloc | apply Kd.S_drewN | apply Kd.S_drew)); exact O0.out, hC_⟩

   rw [if_pos c2] at H
   have c2b0 : decide (x0 < (l0.length : Int)) = true := decide_eq_true c2
   clear c2
   replace H := ifI_ H; obtain ⟨c3, H⟩ := H
   have c3b0 : decide (0 ≤ x0) = true := decide_eq_true c3
   clear c3
   obtain ⟨y1, i0⟩ : ∃ y_ : List ByteArray, y_ = (([] : List ByteArray)) := ⟨_, rfl⟩
   replace H : (if y1.length + ((rd_T66 l0 x0).f2).length < 8796093022208 then (if x1.length < 2513169434916 then (sleuthref12_CopyNodes.l0 k1 l0 (x1 ++ [(⟨(rd_T66 l0 x0).f0, (rd_T66 l0 x0).f1, (y1 ++ ((rd_T66 l0 x0).f2)), (rd_T66 l0 x0).f3⟩ : S66)]) (wrap64 (x0 + 1))) else (none)) else (none)) = some r := by first | (rw [i0]; with_reducible exact H) | (have H2_ := (Option.bind_some _ _).symm.trans H; rw [i0]; with_reducible exact H2_) | (have H2_ := (Option.bind_some _ _).symm.trans H; with_reducible exact H2_) | with_reducible exact H | (rw [i0]; exact H) | exact H
   have Y0 := a_ i0
   clear i0
   replace H := ifI_ H; obtain ⟨c4, H⟩ := H
   have LMc4 := a_ c4
   clear c4
   obtain ⟨y0, i1⟩ : ∃ y_ : List ByteArray, y_ = (y1 ++ ((rd_T66 l0 x0).f2)) := ⟨_, rfl⟩
   replace H : (if x1.length < 2513169434916 then (sleuthref12_CopyNodes.l0 k1 l0 (x1 ++ [(⟨(rd_T66 l0 x0).f0, (rd_T66 l0 x0).f1, y0, (rd_T66 l0 x0).f3⟩ : S66)]) (wrap64 (x0 + 1))) else (none)) = some r := by first | (rw [i1]; with_reducible exact H) | (have H2_ := (Option.bind_some _ _).symm.trans H; rw [i1]; with_reducible exact H2_) | (have H2_ := (Option.bind_some _ _).symm.trans H; with_reducible exact H2_) | with_reducible exact H | (rw [i1]; exact H) | exact H
   have Y1 := a_ i1
   clear i1
   replace H := ifI_ H; obtain ⟨c5, H⟩ := H
   have LMc5 := a_ c5
   clear c5
   obtain ⟨y2, i2⟩ : ∃ y_ : List (S66), y_ = (x1 ++ [(⟨(rd_T66 l0 x0).f0, (rd_T66 l0 x0).f1, y0, (rd_T66 l0 x0).f3⟩ : S66)]) := ⟨_, rfl⟩
   replace H : (sleuthref12_CopyNodes.l0 k1 l0 y2 (wrap64 (x0 + 1))) = some r := by first | (rw [i2]; with_reducible exact H) | (have H2_ := (Option.bind_some _ _).symm.trans H; rw [i2]; with_reducible exact H2_) | (have H2_ := (Option.bind_some _ _).symm.trans H; with_reducible exact H2_) | with_reducible exact H | (rw [i2]; exact H) | exact H
   have Y2 := a_ i2
   clear i2
   have H' := a_ H
   clear H
   have p444 : 0 ≤ (x0 : Int) := of_decide_eq_true hA_
   have q444 : x0 < (l0.length : Int) := of_decide_eq_true hA_
   obtain ⟨d0, A444_2, c444_2, e444, h0, h1, h2, h3, hl444_2, hi444_2⟩ := at_T66 HR0.out x0 p444 q444
   cases e444
   replace h0 := cl_ HB.out h0
   replace h1 := cl_ HB.out h1
   replace h2 := cl_ HB.out h2
   replace h3 := cl_ HB.out h3
   have HR444_2 := a_ hi444_2
   have HC444_2 := a_ hl444_2
   clear hi444_2 hl444_2
   replace p444 := eq_true p444
   replace q444 := eq_true q444
   go_wp2_with (first | ((with_reducible refine gate_dst (N := 5) rfl ?_); refine boxE_ 5 #[.int .i64 0, .int .i64 0, .slice none 0 0, .string (⟨#[]⟩ : ByteArray)] 66 ?_; intro g0 hg w6 hbox hb; replace O0 := a_ (Kd.S_below (Kd.S_elderB (by (with_reducible repeat (first | apply Kd.S_alloc | apply Kd.S_drewN | apply Kd.S_drew)); exact O0.out) g0 (Nat.le_of_eq hg.symm)) hb); have B0 := a_ (hbox); have E0 := a_ ((gE_ hg : w.heap.size ≤ g0)); replace HB := a_ (below_step hB_ hb); clear hb hbox hg; obtain ⟨z0, z1, z2, z3, f4, f5, f6, f7⟩ := bx4_ B0.out) | ((with_reducible refine gate_dst (N := 16) rfl ?_); refine Kd.R_lit Kd.string _ 9 ?hg (N := 16) ?hd (xs := ([] : List ByteArray)) (inner := []) (ok := fun _ => True) (okp := fun _ => True) ?hr ?hp (fun _ hk => hk) trivial (Below.refl _ _) (Nat.le_refl _) (by simp) ?_; (case hd => rfl); (case hg => rfl); (case hr => first | (go_simp; done) | (go_simp; rfl)); (case hp => exact (Reps.none _ _)); intro v0 w8 ho9 hb hg_ hnew_; clear hg_ hnew_; (first | rw [← Y0.out] at ho9 | (simp only [Int.reduceToNat] at ho9; rw [← Y0.out] at ho9)); replace O0 := a_ (Kd.S_elder' (by (with_reducible repeat (first | apply Kd.S_alloc | apply Kd.S_drewN | apply Kd.S_drew)); exact (Kd.S_mono (sF_ (sF_ (sF_ (sF_ (Kd.S_mono O0.out (fun k_ hk => (⟨hk, hk.2⟩ : _ ∧ k_ ≠ g0))))))) (fun _ h_ => h_.1))) (Kd.R_base ho9) hb); have P1 := a_ (Kd.R_lower ho9 (below_size hC_)); replace B0 := a_ (blk_below (g := g0) (o := .cells #[.int .i64 ((rd_T66 l0 x0).f0), .int .i64 ((rd_T66 l0 x0).f1), .slice A444_2 ((rd_T66 l0 x0).f2).length c444_2, .string ((rd_T66 l0 x0).f3)] 66 (0, 0)) (by (with_reducible repeat (first | refine blk_drewN ?_ _ | refine blk_drew ?_ | refine blk_alloc ?_ _)); exact (bP_ (bP_ (bP_ (bP_ (hK_ B0.out)))))) hb); replace HB := a_ (below_step hC_ hb); clear hb ho9; obtain ⟨z4, z5, z6, z7, f8, f9, f10, f11⟩ := bx4_ B0.out) | ((with_reducible refine gate_builtin (b := .append) (xs := #[.tmp 16, .tmp 18]) rfl ?_); at_builtin; refine Kd.R_append_rows Kd.string (w0 := w) w.heap.size rfl (.tmp 16) (.tmp 18) 64 9 (.string ⟨#[]⟩) 16 rfl Tryz.underlying64 info9 rfl (by decide) (by omega) v0 y1 ((rd_T66 l0 x0).f2) _ _ _ (fun _ => True) (fun _ => False) rfl rfl ?aO ?aR (fun _ _ h => h) (fun _ h => h.elim) ?aF ?aB ?aS ?aL ?_; (case aR => exact cB_ HR444_2.out); (case aB => exact hC_); (case aF => exact (fun _ _ => trivial)); (case aO => exact (hR_ P1.out)); (case aS => exact (below_size hC_)); (case aL => have := LMc4.out; omega); intro v1 w3 ho hb hg hat; rw [← Y1.out] at ho; replace O0 := a_ (Kd.S_after (ok := (fun k_ => k_ ≠ g0)) (by (with_reducible repeat (first | apply Kd.S_alloc | apply Kd.S_drewN | apply Kd.S_drew)); exact Kd.S_mono O0.out (fun _ hk => ⟨hk.1.2, hk.2⟩)) hg hat); replace B0 := a_ (blk_grown (hK_ B0.out) hg (Kd.R_ne P1.out B0.out (by decide))); replace HB := a_ (hb); have P0 := a_ (ho); clear P1; clear ho hb hg hat; obtain ⟨a0, o0, e0⟩ := Kd.R_slice P0.out; subst e0; obtain ⟨z8, z9, z10, z11, f12, f13, f14, f15⟩ := bx4_ B0.out) | ((with_reducible refine gate_store (t := 64) (p := 20) rfl ?_); refine store_event (t := 64) (p := 20) (v := ?vo_w14) (w1 := (w3.setCell ⟨g0, 2, none⟩ (.slice a0 y0.length o0))) ?hg ?ho ?hn ?hr ?_; (case ho => rfl); (case hg => rfl); (case hn => rfl); (case hr => first | (go_simp; done) | (go_simp; rfl)); intro w2 hw; replace O0 : Aside0 (Kd.S k66 66 w2 w.heap.size (fun k_ => some k_ ≠ (.slice a0 y0.length o0 : Value).ownBlock ∧ k_ ≠ g0) u3 x1) := ⟨(by rw [hw]; exact (by (with_reducible repeat (first | apply Kd.S_alloc | apply Kd.S_drewN | apply Kd.S_drew)); exact Kd.S_mono (sF_ (Kd.S_mono O0.out (fun k_ hk => (⟨hk, hk.1⟩ : _ ∧ k_ ≠ g0)))) (fun _ hk => ⟨hk.1.2, hk.1.1⟩)))⟩; replace P0 : Aside0 (Kd.R Kd.string 9 w2 w.heap.size (fun _ => True) (.slice a0 y0.length o0) y0) := ⟨(by rw [hw]; exact (by (with_reducible repeat (first | apply Kd.R_alloc | apply Kd.R_drewN | apply Kd.R_drew)); exact Kd.R_mono (rF_ (Kd.R_types P0.out B0.out (by decide))) (fun _ hk => trivial)))⟩; replace B0 : Aside0 (w2.heap[g0]? = some (.cells #[.int .i64 ((rd_T66 l0 x0).f0), .int .i64 ((rd_T66 l0 x0).f1), .slice a0 y0.length o0, .string ((rd_T66 l0 x0).f3)] 66 (0, 0))) := ⟨(by rw [hw]; exact (bP_ (hK_ B0.out)))⟩; replace HB : Aside0 (Below w.heap.size w w2) := ⟨(by rw [hw]; exact hC_)⟩; clear hw; obtain ⟨z12, z13, z14, z15, f16, f17, f18, f19⟩ := bx4_ B0.out) | ((with_reducible refine gate_builtin (b := .append) (xs := #[.tmp 21, .tmp 23]) rfl ?_); at_builtin; refine Kd.S_append k66 (w0 := w) w.heap.size rfl (.tmp 21) (.tmp 23) 22 66 (.agg #[(.int .i64 0), (.int .i64 0), (.slice none 0 0), (.string ⟨#[]⟩)]) 56 rfl Tryz.underlying22 info66 rfl (by decide) (by omega) u3 x1 (⟨(rd_T66 l0 x0).f0, (rd_T66 l0 x0).f1, y0, (rd_T66 l0 x0).f3⟩ : S66) [.int .i64 ((rd_T66 l0 x0).f0), .int .i64 ((rd_T66 l0 x0).f1), .slice a0 y0.length o0, .string ((rd_T66 l0 x0).f3)] (fun k_ => k_ ≠ g0) (fun k_ => some k_ = (.slice a0 y0.length o0 : Value).ownBlock) rfl rfl ?aP (fun k_ hk_ => ((Kd.R_mono (ok' := fun k_ => ((fun k_ => k_ ≠ g0)) k_ ∧ some k_ ≠ (u3 : Value).ownBlock) (Kd.R_types (Kd.R_apart' (P0.out) (Kd.S_typed O0.out) (by decide)) B0.out (by decide)) (fun k_ hk => ⟨hk.2, hk.1.2⟩))).1 k_ hk_.symm) ?aF ?aO ?aB ?aS ?aL ?_; (case aP => exact k66_mkM _ _ _ (⟨(rd_T66 l0 x0).f0, (rd_T66 l0 x0).f1, y0, (rd_T66 l0 x0).f3⟩ : S66) (Kd.R_mono (Kd.R_tight rfl (Kd.R_mono (ok' := fun k_ => ((fun k_ => k_ ≠ g0)) k_ ∧ some k_ ≠ (u3 : Value).ownBlock) (Kd.R_types (Kd.R_apart' (P0.out) (Kd.S_typed O0.out) (by decide)) B0.out (by decide)) (fun k_ hk => ⟨hk.2, hk.1.2⟩))) (fun _ h_ => h_))); (case aB => exact hC_); (case aF => exact (fun k_ hk => Kd.freshB (g := g0) (o := .cells #[.int .i64 ((rd_T66 l0 x0).f0), .int .i64 ((rd_T66 l0 x0).f1), .slice a0 y0.length o0, .string ((rd_T66 l0 x0).f3)] 66 (0, 0)) (hK_ B0.out) k_ hk)); (case aO => exact (by (with_reducible repeat (first | apply Kd.S_alloc | apply Kd.S_drewN | apply Kd.S_drew)); exact Kd.S_mono O0.out (fun k_ hk => ⟨hk.2, fun e_ => hk.1 e_⟩))); (case aS => exact (below_size hC_)); (case aL => have := LMc5.out; omega); intro v2 w4 ho hb hg hat; rw [← Y2.out] at ho; replace B0 := a_ (blk_grown (hK_ B0.out) hg (Kd.S_away O0.out (fun _ hk => hk.2))); replace HB := a_ (hb); have P2 := a_ (ho); clear O0 P0; clear ho hb hg hat))
   go_roundg k1
   case measure => have := HK1.out; omega
   case rel => exact ⟨(y2), (wrap64 (x0 + 1)), hW_, H', ⟨by have := HK1.out; omega⟩, ⟨by (with_reducible repeat (first | apply Kd.S_alloc | apply Kd.S_drewN | apply Kd.S_drew)); exact Kd.S_mono P2.out (fun _ hk => trivial)⟩, ⟨hC_⟩⟩
end Go.Proofs.YtbnljapgnfmmoaaGreatDoor.G
end
section
namespace Go.Proofs.YtbnljapgnfmmoaaGreatDoor.G
open Go.RowKit Go.Proofs.YtbnljapgnfmmoaaGreatDoorW.PrintWords Go.Proofs.YtbnljapgnfmmoaaGreatDoorW.PrintLast Go.Proofs.YtbnljapgnfmmoaaGreatDoorW.PrintMore
set_option linter.unusedVariables false
set_option linter.unusedSimpArgs false
abbrev An := S53
abbrev ra (zs : List An) (i : Int) : An := rd_T53 zs i
def fineA (l : List An) : Prop := l.length * 16 ≤ 140737488351232 ∧ ∀ x ∈ l, (Lit.int .i64 x.f0).wf = true ∧ (Lit.int .i64 x.f1).wf = true
theorem drop_ra (l : List An) (i : Nat) (h : i < l.length) : l.drop i = ra l (i : Int) :: l.drop (i + 1) := by
  rw [List.drop_eq_getElem_cons h]
  congr 1
  show _ = List.getD _ _ _
  rw [Int.toNat_natCast, List.getD_eq_getElem?_getD, List.getElem?_eq_getElem h]; rfl
def markB (x : Int) : Bool := decide (1 ≤ x) && decide (x ≤ 3)
theorem markB_spec {x : Int} (h : markB x = true) : 1 ≤ x ∧ x ≤ 3 := by
  unfold markB at h
  rw [Bool.and_eq_true, decide_eq_true_iff, decide_eq_true_iff] at h
  exact h
theorem mark_eq (x : Int) : next_Mark.f x = some (markB x) := by
  unfold next_Mark.f markB
  by_cases c : 1 ≤ x
  · rw [if_pos (show x ≥ 1 from c), decide_eq_true c, Bool.true_and]
  · rw [if_neg (show ¬ x ≥ 1 from c), decide_eq_false c, Bool.false_and]
theorem markMay_eq (x : Int) : sleuthref12_markMay.f x = some (markB x) := by
  unfold sleuthref12_markMay.f
  rw [upTo_eq]; rfl
def wayB (x : Int) : Bool := x == 0 || x == 1
theorem way_eq (x : Int) : next_Way.f x = some (wayB x) := by
  unfold next_Way.f wayB
  by_cases c : x = 0
  · rw [if_pos c, beq_iff_eq.2 c]; rfl
  · rw [if_neg c, beq_eq_false_iff_ne.2 c]; rfl
theorem wayR_eq (x : Int) : sleuthref12_upTo.f x 0 1 = some (wayB x) := by
  rw [upTo_eq]
  unfold wayB
  congr 1
  rw [Bool.eq_iff_iff, Bool.and_eq_true, Bool.or_eq_true, decide_eq_true_iff, decide_eq_true_iff, beq_iff_eq, beq_iff_eq]
  omega
theorem wayB_spec {x : Int} (h : wayB x = true) : x = 0 ∨ x = 1 := by
  unfold wayB at h
  rw [Bool.or_eq_true, beq_iff_eq, beq_iff_eq] at h
  exact h
/-- the marks that answers leave -/
def goA : List An → List Int → Option (List Int)
  | [], m => some m
  | a :: zs, m => if (decide (0 ≤ a.f0) && decide (a.f0 < (m.length : Int))) && markB a.f1 then goA zs (m.set a.f0.toNat a.f1) else none
def resA (o : Option (List Int)) : List Int × Int := match o with | some m => (m, 0) | none => ([], 2000)
theorem marks_l0 (zs : List An) (hl : zs.length ≤ 9223372036854775806) : ∀ (n i : Nat) (m : List Int), i + n = zs.length → Ev (fun k => next_Marks.l0 k m zs (zs.length : Int) (i : Int)) (resA (goA (zs.drop i) m)) := by
  intro n
  induction n with
  | zero =>
    intro i m hi
    rw [List.drop_eq_nil_of_le (by omega)]
    refine Ev.step (f := fun _ => some (m, 0)) (fun k => ?_) (Ev.now _)
    rw [next_Marks.l0, if_neg (by omega)]
  | succ n ih =>
    intro i m hi
    have hw : wrap64 ((i : Int) + 1) = ((i + 1 : Nat) : Int) := by rw [w64 (by omega) (by omega)]; omega
    rw [drop_ra zs i (by omega), goA]
    obtain ⟨a, ha⟩ : ∃ a, ra zs (i : Int) = a := ⟨_, rfl⟩
    have ha' : rd_T53 zs (i : Int) = a := ha
    rw [ha]
    by_cases c0 : 0 ≤ a.f0
    · by_cases c1 : a.f0 < (m.length : Int)
      · rw [decide_eq_true c0, decide_eq_true c1, Bool.and_self, Bool.true_and]
        by_cases c2 : markB a.f1 = true
        · rw [if_pos c2]
          refine Ev.step (f := fun k => next_Marks.l0 k (m.set a.f0.toNat a.f1) zs (zs.length : Int) ((i + 1 : Nat) : Int)) (fun k => ?_) (ih (i + 1) _ (by omega))
          rw [next_Marks.l0, if_pos (by omega), if_pos (by omega), if_pos (by omega), ha', if_neg (by omega), if_neg (by omega), mark_eq, Option.bind_some, if_pos c2, if_pos c0, if_pos c1, hw]
        · rw [if_neg c2]
          refine Ev.step (f := fun _ => some ([], 2000)) (fun k => ?_) (Ev.now _)
          rw [next_Marks.l0, if_pos (by omega), if_pos (by omega), if_pos (by omega), ha', if_neg (by omega), if_neg (by omega), mark_eq, Option.bind_some, if_neg c2]
      · rw [decide_eq_false c1, Bool.and_false, Bool.false_and, if_neg Bool.false_ne_true]
        refine Ev.step (f := fun _ => some ([], 2000)) (fun k => ?_) (Ev.now _)
        rw [next_Marks.l0, if_pos (by omega), if_pos (by omega), if_pos (by omega), ha', if_neg (by omega), if_pos (by omega)]
    · rw [decide_eq_false c0, Bool.false_and, Bool.false_and, if_neg Bool.false_ne_true]
      refine Ev.step (f := fun _ => some ([], 2000)) (fun k => ?_) (Ev.now _)
      rw [next_Marks.l0, if_pos (by omega), if_pos (by omega), if_pos (by omega), ha', if_pos (by omega)]
theorem refMarksA_l0 (ns : List Nd) (w : Int) (zs : List An) (hn : ns.length ≤ 9223372036854775806) (hl : zs.length ≤ 9223372036854775806) : ∀ (n i : Nat) (m : List Int), m.length = ns.length → i + n = zs.length → Ev (fun k => sleuthref12_Marks.l0 k m (i : Int) ns w zs) (resA (goA (zs.drop i) m)) := by
  intro n
  induction n with
  | zero =>
    intro i m hm hi
    rw [List.drop_eq_nil_of_le (by omega)]
    refine Ev.step (f := fun _ => some (m, 0)) (fun k => ?_) (Ev.now _)
    rw [sleuthref12_Marks.l0, if_neg (by omega)]
  | succ n ih =>
    intro i m hm hi
    have hw : wrap64 ((i : Int) + 1) = ((i + 1 : Nat) : Int) := by rw [w64 (by omega) (by omega)]; omega
    have hw1 : wrap64 ((ns.length : Int) - 1) = (ns.length : Int) - 1 := w64 (by omega) (by omega)
    rw [drop_ra zs i (by omega), goA]
    obtain ⟨a, ha⟩ : ∃ a, ra zs (i : Int) = a := ⟨_, rfl⟩
    have ha' : rd_T53 zs (i : Int) = a := ha
    rw [ha]
    have e : decide (a.f0 ≤ (ns.length : Int) - 1) = decide (a.f0 < (m.length : Int)) := decide_eq_decide.2 (by omega)
    by_cases c : (decide (0 ≤ a.f0) && decide (a.f0 < (m.length : Int))) = true
    · rw [c, Bool.true_and]
      have c' := c
      rw [Bool.and_eq_true, decide_eq_true_iff, decide_eq_true_iff] at c'
      by_cases c2 : markB a.f1 = true
      · rw [if_pos c2]
        refine Ev.step (f := fun k => sleuthref12_Marks.l0 k (m.set a.f0.toNat a.f1) ((i + 1 : Nat) : Int) ns w zs) (fun k => ?_) (ih (i + 1) _ (by rw [List.length_set]; exact hm) (by omega))
        rw [sleuthref12_Marks.l0, if_pos (by omega), if_pos (by omega), ha', hw1, upTo_eq, e, Option.bind_some, if_pos c, markMay_eq, Option.bind_some, if_pos c2, if_pos c'.1, if_pos c'.2, hw]
      · rw [if_neg c2]
        refine Ev.step (f := fun _ => some ([], 2000)) (fun k => ?_) (Ev.now _)
        rw [sleuthref12_Marks.l0, if_pos (by omega), if_pos (by omega), ha', hw1, upTo_eq, e, Option.bind_some, if_pos c, markMay_eq, Option.bind_some, if_neg c2]
    · rw [Bool.not_eq_true] at c
      rw [c, Bool.false_and, if_neg Bool.false_ne_true]
      refine Ev.step (f := fun _ => some ([], 2000)) (fun k => ?_) (Ev.now _)
      rw [sleuthref12_Marks.l0, if_pos (by omega), if_pos (by omega), ha', hw1, upTo_eq, e, Option.bind_some, c, if_neg Bool.false_ne_true]
def marksF (ns : List Nd) (zs : List An) : List Int × Int := if (mayT ns && decide (zs.length ≤ 512)) = true then resA (goA zs (List.replicate ns.length 0)) else ([], 2000)
theorem marks_ev (ns : List Nd) (w : Int) (zs : List An) : Ev (fun k => next_Marks.f k ns w zs) (marksF ns zs) := by
  unfold next_Marks.f marksF
  refine Ev.bind (trailMay_ev ns) ?_
  cases hm : mayT ns with
  | false =>
    simp only [if_neg Bool.false_ne_true, Bool.false_and]
    refine Ev.step (f := fun _ => some ([], 2000)) (fun k => ?_) (Ev.now _)
    rw [next_Marks.j0, if_pos rfl]
  | true =>
    have hlen := mayT_len hm
    simp only [if_pos, Bool.true_and]
    by_cases c : zs.length ≤ 512
    · rw [decide_eq_false (show ¬ (zs.length : Int) > 512 by omega), if_pos (decide_eq_true c)]
      have h := marks_l0 zs (by omega) zs.length 0 (List.replicate ns.length 0) (by omega)
      refine Ev.step (fun k => ?_) h
      rw [next_Marks.j0, if_neg Bool.false_ne_true, if_pos (by omega), Int.toNat_natCast, if_pos (by omega)]; rfl
    · rw [decide_eq_true (show (zs.length : Int) > 512 by omega), if_neg (by rw [decide_eq_true_iff]; exact c)]
      refine Ev.step (f := fun _ => some ([], 2000)) (fun k => ?_) (Ev.now _)
      rw [next_Marks.j0, if_pos rfl]
theorem refMarksA_ev (ns : List Nd) (hok : okN ns) (w : Int) (zs : List An) : Ev (fun k => sleuthref12_Marks.f k ns w zs) (marksF ns zs) := by
  unfold sleuthref12_Marks.f marksF
  refine Ev.bind (refTrail_ev ns hok) ?_
  cases hm : mayT ns with
  | false =>
    simp only [if_neg Bool.false_ne_true, Bool.false_and]
    refine Ev.step (f := fun _ => some ([], 2000)) (fun k => ?_) (Ev.now _)
    rw [sleuthref12_Marks.j0, if_pos rfl]
  | true =>
    have hlen := mayT_len hm
    simp only [if_pos, Bool.true_and]
    by_cases c : zs.length ≤ 512
    · rw [decide_eq_false (show ¬ (zs.length : Int) > 512 by omega), if_pos (decide_eq_true c)]
      have h := refMarksA_l0 ns w zs (by omega) (by omega) zs.length 0 (List.replicate ns.length 0) List.length_replicate (by omega)
      refine Ev.step (fun k => ?_) h
      rw [sleuthref12_Marks.j0, if_neg Bool.false_ne_true, if_pos (by omega), Int.toNat_natCast, if_pos (by omega)]; rfl
    · rw [decide_eq_true (show (zs.length : Int) > 512 by omega), if_neg (by rw [decide_eq_true_iff]; exact c)]
      refine Ev.step (f := fun _ => some ([], 2000)) (fun k => ?_) (Ev.now _)
      rw [sleuthref12_Marks.j0, if_pos rfl]
theorem goA_ok : ∀ (zs : List An) (m m' : List Int), goA zs m = some m' → m'.length = m.length ∧ ((∀ x ∈ m, oddB x = false) → ∀ x ∈ m', oddB x = false)
  | [], m, m', h => by
    obtain rfl := Option.some.inj h
    exact ⟨rfl, fun hh => hh⟩
  | a :: zs, m, m', h => by
    rw [goA] at h
    by_cases c : ((decide (0 ≤ a.f0) && decide (a.f0 < (m.length : Int))) && markB a.f1) = true
    · rw [if_pos c] at h
      rw [Bool.and_eq_true] at c
      have hb := markB_spec c.2
      obtain ⟨h1, h2⟩ := goA_ok zs _ m' h
      rw [List.length_set] at h1
      refine ⟨h1, fun hh => h2 fun x hx => ?_⟩
      rcases List.mem_or_eq_of_mem_set hx with hx | rfl
      · exact hh x hx
      · unfold oddB
        rw [decide_eq_false (by omega), decide_eq_false (by omega)]; rfl
    · rw [if_neg c] at h; cases h
theorem marksF_ok {ns : List Nd} {zs : List An} (h : (marksF ns zs).2 = 0) : marksS ns (marksF ns zs).1 = true ∧ zs.length ≤ 512 ∧ goA zs (List.replicate ns.length 0) = some (marksF ns zs).1 := by
  unfold marksF at h ⊢
  by_cases c : (mayT ns && decide (zs.length ≤ 512)) = true
  · rw [if_pos c] at h ⊢
    rw [Bool.and_eq_true, decide_eq_true_iff] at c
    cases hg : goA zs (List.replicate ns.length 0) with
    | none => rw [hg] at h; exact absurd h (by decide)
    | some m =>
      obtain ⟨h1, h2⟩ := goA_ok zs _ m hg
      rw [List.length_replicate] at h1
      refine ⟨?_, c.2, rfl⟩
      show marksS ns m = true
      unfold marksS
      rw [c.1, h1, decide_eq_true rfl, Bool.true_and, Bool.true_and, Bool.not_eq_true']
      rw [List.any_eq_false]
      intro x hx
      rw [h2 (fun y hy => by rw [List.eq_of_mem_replicate hy]; rfl) x hx]
      exact Bool.false_ne_true
  · rw [if_neg c] at h; exact absurd h (by decide)
def askW (w : Int) (ns : List Nd) (ms : List Int) : Int × Int := if w = 1 then askH ns ms else askT ns ms
theorem nextAsk_ev {ns : List Nd} {ms : List Int} (h : marksS ns ms = true) (w : Int) : Ev (fun k => next_Ask.f k w ns ms) (askW w ns ms) := by
  unfold next_Ask.f askW
  by_cases c : w = 1
  · simp only [if_pos c]; exact Ev.bind (askH_ev h) (Ev.now _)
  · simp only [if_neg c]; exact Ev.bind (ask_ev h) (Ev.now _)
theorem asksR_ev {ns : List Nd} {ms : List Int} (h : marksS ns ms = true) (w : Int) (hw : wayB w = true) : Ev (fun k => sleuthref12_asks.f k ns w ms) (askW w ns ms) := by
  unfold sleuthref12_asks.f askW
  rcases wayB_spec hw with rfl | rfl
  · rw [if_neg (show ¬ (0 : Int) = 1 by decide)]
    have e : (0 : Int) = 0 := rfl
    simp only [if_pos e]; exact Ev.bind (topDown_ev h) (Ev.now _)
  · rw [if_pos rfl]
    have e : ¬ (1 : Int) = 0 := by decide
    simp only [if_neg e]; exact Ev.bind (byHalves_ev h) (Ev.now _)
def stepF (ns : List Nd) (w : Int) (zs : List An) : Int × Int × Int := if (marksF ns zs).2 = 0 then (if wayB w = true then ((askW w ns (marksF ns zs).1).1, (askW w ns (marksF ns zs).1).2, 0) else (0, 0, 2000)) else (0, 0, 2000)
theorem step_ev (ns : List Nd) (w : Int) (zs : List An) : Ev (fun k => next_Step.f k ns w zs) (stepF ns w zs) := by
  unfold next_Step.f stepF
  refine Ev.bind (marks_ev ns w zs) ?_
  by_cases c : (marksF ns zs).2 = 0
  · simp only [if_pos c, way_eq, Option.bind_some]
    by_cases d : wayB w = true
    · simp only [if_pos d]; exact Ev.bind (nextAsk_ev (marksF_ok c).1 w) (Ev.now _)
    · simp only [if_neg d]; exact Ev.now _
  · simp only [if_neg c]; exact Ev.now _
theorem refStep_ev (ns : List Nd) (hok : okN ns) (w : Int) (zs : List An) : Ev (fun k => sleuthref12_Step.f k ns w zs) (stepF ns w zs) := by
  unfold sleuthref12_Step.f stepF
  refine Ev.bind (refMarksA_ev ns hok w zs) ?_
  by_cases c : (marksF ns zs).2 = 0
  · simp only [if_pos c, wayR_eq, Option.bind_some]
    by_cases d : wayB w = true
    · simp only [if_pos d]; exact Ev.bind (asksR_ev (marksF_ok c).1 w d) (Ev.now _)
    · simp only [if_neg d]; exact Ev.now _
  · simp only [if_neg c]; exact Ev.now _
theorem askT_facts {ns : List Nd} {ms : List Int} (h : marksS ns ms = true) : 0 ≤ (askT ns ms).2 ∧ (askT ns ms).2 < (ns.length : Int) ∧ ((askT ns ms).1 = 0 → rd ms (askT ns ms).2 = 0) := by
  obtain ⟨hm, hl, hx⟩ := marksS_spec h
  have hlen := mayT_len hm
  unfold askT
  by_cases c0 : rd ms 0 = 0
  · rw [if_pos c0]; exact ⟨Int.le_refl _, by show (0 : Int) < _; omega, fun _ => c0⟩
  · rw [if_neg c0]
    by_cases c1 : rd ms 0 = 1
    · rw [if_pos c1]; exact ⟨Int.le_refl _, by show (0 : Int) < _; omega, fun hh => absurd hh (by decide)⟩
    · rw [if_neg c1]
      by_cases c3 : rd ms 0 = 3
      · rw [if_pos c3]; exact ⟨Int.le_refl _, by show (0 : Int) < _; omega, fun hh => absurd hh (by decide)⟩
      · rw [if_neg c3]
        have h00 := marks_at h 0 (by omega)
        rw [show ((0 : Nat) : Int) = 0 from rfl] at h00
        have hd := downT_spec (ns := ns) (ms := ms) ns.length 0 (by omega) (by omega) (by omega) (by omega)
        generalize downT ns ms ns.length 0 = b at hd
        unfold finT
        cases hf : fstK ns ms b 0 with
        | some k =>
          have hk := fstK_spec hf
          exact ⟨by show 0 ≤ k; omega, hk.2.1, fun _ => hk.2.2.2⟩
        | none =>
          unfold bugS
          simp only []
          split
          · exact ⟨hd.1, hd.2.1, fun hh => absurd hh (show ¬ (1 : Int) = 0 by decide)⟩
          · exact ⟨Int.le_refl _, by show (0 : Int) < _; omega, fun hh => absurd hh (by decide)⟩
theorem askH_facts {ns : List Nd} {ms : List Int} (h : marksS ns ms = true) : 0 ≤ (askH ns ms).2 ∧ (askH ns ms).2 < (ns.length : Int) ∧ ((askH ns ms).1 = 0 → rd ms (askH ns ms).2 = 0) := by
  obtain ⟨hm, hl, hx⟩ := marksS_spec h
  have hlen := mayT_len hm
  unfold askH
  by_cases c2 : rd ms 0 = 2
  · rw [if_pos c2]
    have hr := lastM_range ms ms.length (by omega)
    generalize lastM ms ms.length = w at hr
    have hbr := bestH_range (szH ns (dbt ns ms w.toNat ns.length) ms) (dbt ns ms w.toNat ns.length) ms (rd (szH ns (dbt ns ms w.toNat ns.length) ms) w) ns.length
    have hbs := bestH_spec (szH ns (dbt ns ms w.toNat ns.length) ms) (dbt ns ms w.toNat ns.length) ms (rd (szH ns (dbt ns ms w.toNat ns.length) ms) w) ns.length
    generalize bestH (szH ns (dbt ns ms w.toNat ns.length) ms) (dbt ns ms w.toNat ns.length) ms (rd (szH ns (dbt ns ms w.toNat ns.length) ms) w) ns.length = b at hbr hbs
    by_cases cb : b < 0
    · rw [if_pos cb]
      unfold bugS
      split
      · exact ⟨hr.1, by show w < _; omega, fun hh => absurd hh (show ¬ (1 : Int) = 0 by decide)⟩
      · exact ⟨Int.le_refl _, by show (0 : Int) < _; omega, fun hh => absurd hh (by decide)⟩
    · rw [if_neg cb]
      have h1 := hbs (by omega)
      unfold openB at h1
      rw [Bool.and_eq_true, beq_iff_eq] at h1
      exact ⟨by show 0 ≤ b; omega, hbr.2, fun _ => h1.2⟩
  · rw [if_neg c2]; exact askT_facts h
theorem askW_facts {ns : List Nd} {ms : List Int} (h : marksS ns ms = true) (w : Int) : 0 ≤ (askW w ns ms).2 ∧ (askW w ns ms).2 < (ns.length : Int) ∧ ((askW w ns ms).1 = 0 → rd ms (askW w ns ms).2 = 0) := by
  unfold askW
  split
  · exact askH_facts h
  · exact askT_facts h
theorem sameAnswers_l0 (a : List An) (ha : a.length ≤ 9223372036854775806) : ∀ (n i : Nat), i + n = a.length → Ev (fun k => sleuthlaw0_SameAnswers.l0 k a a (i : Int)) true := by
  intro n
  induction n with
  | zero =>
    intro i hi
    refine Ev.step (f := fun _ => some true) (fun k => ?_) (Ev.now _)
    rw [sleuthlaw0_SameAnswers.l0, if_neg (by omega)]
  | succ n ih =>
    intro i hi
    have hw : wrap64 ((i : Int) + 1) = ((i + 1 : Nat) : Int) := by rw [w64 (by omega) (by omega)]; omega
    refine Ev.step (f := fun k => sleuthlaw0_SameAnswers.l0 k a a ((i + 1 : Nat) : Int)) (fun k => ?_) (ih (i + 1) (by omega))
    rw [sleuthlaw0_SameAnswers.l0, if_pos (by omega), if_pos (by omega), if_pos (by omega), hw]
    simp only [BEq.rfl, Bool.not_true, Bool.or_self, if_neg Bool.false_ne_true]
theorem sameAnswers_ev (a : List An) (ha : a.length ≤ 9223372036854775806) : Ev (fun k => sleuthlaw0_SameAnswers.f k a a) true := by
  unfold sleuthlaw0_SameAnswers.f
  simp only [if_pos]
  exact sameAnswers_l0 a ha a.length 0 (by omega)
theorem sameSession_ev (ns : List Nd) (hok : okN ns) (w : Int) (zs : List An) (hz : zs.length ≤ 9223372036854775806) : Ev (fun k => sleuthlaw0_SameSession.f k ns w zs ns w zs) true := by
  unfold sleuthlaw0_SameSession.f
  refine Ev.bind (sameNodes_ev ns hok) ?_
  simp only [if_pos]
  exact Ev.bind (sameAnswers_ev zs hz) (Ev.now _)
end Go.Proofs.YtbnljapgnfmmoaaGreatDoor.G
end
section
namespace Go.Proofs.YtbnljapgnfmmoaaGreatDoor.G
open Go.RowKit Go.Proofs.YtbnljapgnfmmoaaGreatDoorW.PrintWords Go.Proofs.YtbnljapgnfmmoaaGreatDoorW.PrintLast Go.Proofs.YtbnljapgnfmmoaaGreatDoorW.PrintMore
set_option maxHeartbeats 8000000
set_option maxRecDepth 100000
attribute [local go_sem] max2_int min2_int max_two min_two max_three min_three max_four min_four   -- for this text's walks alone
set_option linter.unusedVariables false
set_option linter.unusedSimpArgs false

mutual
def sleuthref12_SessionMay.j0 : Nat → Bool → List (S66) → Int → List (S53) → Option (Bool)
 | 0, _, _, _, _ => none
 | k + 1, x22, x413000, x413001, x413002 => if x22 = true then (some false) else (if 0 ≤ (x413000.length : Int) then (if ((x413000.length : Int) : Int).toNat ≤ 35184372088832 then (sleuthref12_SessionMay.l0 k (List.replicate ((x413000.length : Int) : Int).toNat 0) 0 x413000 x413001 x413002) else (none)) else (none))
def sleuthref12_SessionMay.l0 : Nat → List Int → Int → List (S66) → Int → List (S53) → Option (Bool)
 | 0, _, _, _, _, _ => none
 | k + 1, x3, x4, x413000, x413001, x413002 => if x4 < (x413002.length : Int) then (if 0 ≤ x4 then ((sleuthref12_asks.f k x413000 x413001 x3).bind fun bt420 => (if bt420.1 = 0 then (if bt420.2 = ((rd_T53 x413002 x4).f0) then ((sleuthref12_markMay.f ((rd_T53 x413002 x4).f1)).bind fun t423 => (if t423 = true then (if 0 ≤ ((rd_T53 x413002 x4).f0) then (if ((rd_T53 x413002 x4).f0) < (x3.length : Int) then (sleuthref12_SessionMay.l0 k (x3.set (((rd_T53 x413002 x4).f0) : Int).toNat ((rd_T53 x413002 x4).f1)) (wrap64 (x4 + 1)) x413000 x413001 x413002) else (none)) else (none)) else (some false))) else (some false)) else (some false))) else (none)) else (some true)
end
def sleuthref12_SessionMay.f (k : Nat) (l0_0 : List (S66)) (a0_1 : Int) (l0_2 : List (S53)) : Option (Bool) := (sleuthref12_TrailMay.f k l0_0).bind fun t413 => (if t413 = true then ((sleuthref12_upTo.f a0_1 0 1).bind fun t414 => (if t414 = true then (sleuthref12_SessionMay.j0 k (decide ((l0_2.length : Int) > 512)) l0_0 a0_1 l0_2) else (sleuthref12_SessionMay.j0 k true l0_0 a0_1 l0_2))) else (sleuthref12_SessionMay.j0 k true l0_0 a0_1 l0_2))
theorem sleuthref12_SessionMay.calls (k : Nat) (A0_0 : Option Addr) (c0_0 : Nat) (l0_0 : List (S66)) (a0_1 : Int) (A0_2 : Option Addr) (c0_2 : Nat) (l0_2 : List (S53)) (r : Bool) (w : World) (hr0_0 : Kd.C k66 w A0_0 l0_0.length l0_0) (hc0_0 : l0_0.length ≤ c0_0) (hr0_2 : Kd.C k53 w A0_2 l0_2.length l0_2) (hc0_2 : l0_2.length ≤ c0_2) (h : sleuthref12_SessionMay.f k l0_0 a0_1 l0_2 = some r) :
 Calls Tryz.prog 16 #[.agg #[.slice A0_0 l0_0.length c0_0, .int .i64 a0_1, .slice A0_2 l0_2.length c0_2]] w fun e w' => e = .returned (.bool r) ∧ Below w.heap.size w w' := by
 have hu25 := Tryz.underlying25
 have hu53 := Tryz.underlying53
 have hu49 := Tryz.underlying49
 have HR0_0 := a_ hr0_0
 have HC0_0 := a_ hc0_0
 clear hr0_0 hc0_0
 have HR0_2 := a_ hr0_2
 have HC0_2 := a_ hc0_2
 clear hr0_2 hc0_2
 have HB := a_ (Below.refl w.heap.size w)
 have H := h; unfold sleuthref12_SessionMay.f at H
 clear h
 have HC2 := a_ H
 clear H
 go_enter Tryz.func16, Tryz.ntmps16
 go_upto_region 1 with (first | ((with_reducible refine gate_dst (N := 1) rfl ?_); (try (refine gate_guard (by rfl) ?_; dsimp only)); refine boxE_ 1 #[.slice A0_0 l0_0.length c0_0, .int .i64 a0_1, .slice A0_2 l0_2.length c0_2] 25 ?_; intro g2 hg w3 hbox hb; have B0 := a_ (hbox); have E2 := a_ ((gE_ hg : w.heap.size ≤ g2)); replace HB := a_ (below_step hB_ hb); clear hb hbox hg))
 (try simp only [Act.put, List.setIfInBounds_toArray, List.set_cons_zero, List.set_cons_succ])
 go_cut [22] (fun v0 wc => ∃ (kq : Nat) (x2 : Bool), v0 = .bool x2 ∧ Aside0 (sleuthref12_SessionMay.j0 kq x2 l0_0 a0_1 l0_2 = some r) ∧ Aside0 (kq ≤ k) ∧ Aside0 (wc.heap[g2]? = some (.cells #[(.slice A0_0 l0_0.length c0_0), .int .i64 a0_1, (.slice A0_2 l0_2.length c0_2)] 25 (0, 0))) ∧ Aside0 (Below w.heap.size w wc))
 case first =>
  have H := HC2.out
  clear HC2
  replace H := Option.bind_eq_some_iff.mp H
  obtain ⟨t2, A40, H⟩ := H
  try dsimp only at H
  have A4 := a_ A40
  clear A40
  by_cases c5 : t2 = true
  case neg =>
   replace c5 := Bool.eq_false_iff.mpr c5
   subst c5
   rw [if_neg (show ¬ (false = true) by decide)] at H
   have H' := a_ H
   clear H
   obtain ⟨z0, z1, z2, f2, f3, f4⟩ := bx3_ B0.out
   go_wp2_with (first | ((with_reducible refine gate_callee (f := 18) rfl ?_); refine goesL_ (some 9) rfl rfl Tryz.func18 (by kernel_rfl) rfl #[.slice A0_0 l0_0.length c0_0] rfl hL_ ?_; (with_reducible refine (sleuthref12_TrailMay.calls k _ _ l0_0 false _ ?s1 ?s2 A4.out).mono ?_); (case s1 => exact cB_ HR0_0.out); (case s2 => exact HC0_0.out); rintro e w5 ⟨rfl, hb⟩; refine ⟨_, rfl, ?_⟩; replace B0 := a_ (bB_ B0.out hb); replace HB := a_ (below_step hC_ hb); (try clear hb); (try clear hb2); (try clear hk); (try clear hi)))
   go_meet
   case rel => exact ⟨_, (true), hW_, H', ⟨by first | omega | exact Nat.le_refl _⟩, ⟨(hK_ B0.out)⟩, ⟨hC_⟩⟩
  subst c5
  rw [if_pos rfl] at H
  replace H := Option.bind_eq_some_iff.mp H
  obtain ⟨t3, A60, H⟩ := H
  try dsimp only at H
  have A6 := a_ A60
  clear A60
  by_cases c7 : t3 = true
  case pos =>
   subst c7
   rw [if_pos rfl] at H
   have H' := a_ H
   clear H
   obtain ⟨z3, z4, z5, f5, f6, f7⟩ := bx3_ B0.out
   go_wp2_with (first | ((with_reducible refine gate_callee (f := 18) rfl ?_); refine goesL_ _ rfl rfl Tryz.func18 (by kernel_rfl) rfl #[.slice A0_0 l0_0.length c0_0] rfl hL_ ?_; (with_reducible refine (sleuthref12_TrailMay.calls k _ _ l0_0 true _ ?s1 ?s2 A4.out).mono ?_); (case s1 => exact cB_ HR0_0.out); (case s2 => exact HC0_0.out); rintro e w9 ⟨rfl, hb⟩; refine ⟨_, rfl, ?_⟩; replace B0 := a_ (bB_ B0.out hb); replace HB := a_ (below_step hC_ hb); (try clear hb); (try clear hb2); (try clear hk); (try clear hi); obtain ⟨z6, z7, z8, f8, f9, f10⟩ := bx3_ B0.out) | (go_at_call 32; (with_reducible refine (sleuthref12_upTo.calls a0_1 0 1 true _ A6.out).mono ?_); rintro e w' ⟨rfl, ⟨nd, rfl⟩⟩))
   go_meet
   case rel => exact ⟨_, (decide ((l0_2.length : Int) > 512)), hW_, H', ⟨by first | omega | exact Nat.le_refl _⟩, ⟨(hK_ B0.out)⟩, ⟨hC_⟩⟩
  replace c7 := Bool.eq_false_iff.mpr c7
  subst c7
  rw [if_neg (show ¬ (false = true) by decide)] at H
  have H' := a_ H
  clear H
  obtain ⟨z9, z10, z11, f11, f12, f13⟩ := bx3_ B0.out
  go_wp2_with (first | ((with_reducible refine gate_callee (f := 18) rfl ?_); refine goesL_ _ rfl rfl Tryz.func18 (by kernel_rfl) rfl #[.slice A0_0 l0_0.length c0_0] rfl hL_ ?_; (with_reducible refine (sleuthref12_TrailMay.calls k _ _ l0_0 true _ ?s1 ?s2 A4.out).mono ?_); (case s1 => exact cB_ HR0_0.out); (case s2 => exact HC0_0.out); rintro e w6 ⟨rfl, hb⟩; refine ⟨_, rfl, ?_⟩; replace B0 := a_ (bB_ B0.out hb); replace HB := a_ (below_step hC_ hb); (try clear hb); (try clear hb2); (try clear hk); (try clear hi); obtain ⟨z12, z13, z14, f14, f15, f16⟩ := bx3_ B0.out) | (go_at_call 32; (with_reducible refine (sleuthref12_upTo.calls a0_1 0 1 false _ A6.out).mono ?_); rintro e w' ⟨rfl, ⟨nd, rfl⟩⟩))
  go_meet
  case rel => exact ⟨_, (true), hW_, H', ⟨by first | omega | exact Nat.le_refl _⟩, ⟨(hK_ B0.out)⟩, ⟨hC_⟩⟩
 case rest =>
  clear HC2
  try clear c1
  try clear p2
  try clear c5
  try clear c7
  try clear z6
  try clear z7
  try clear z8
  try clear z9
  try clear z10
  try clear z11
  try clear z12
  try clear z13
  try clear z14
  try clear z0
  try clear z1
  try clear z2
  try clear z3
  try clear z4
  try clear z5
  try clear f8
  try clear f9
  try clear f10
  try clear f11
  try clear f12
  try clear f13
  try clear f14
  try clear f15
  try clear f16
  try clear f2
  try clear f3
  try clear f4
  try clear f5
  try clear f6
  try clear f7
  obtain ⟨kq, x2, rfl, HA, HJ1, B0, HB⟩ := hcut
  cases kq with
  | zero => exact absurd HA.out (by simp [sleuthref12_SessionMay.j0])
  | succ kj1 =>
   have H := HA.out
   clear HA
   simp only [sleuthref12_SessionMay.j0] at H
   by_cases c16 : x2 = true
   case pos =>
    subst c16
    rw [if_pos rfl] at H
    obtain rfl := Option.some.inj H
    go_wp2
    go_ret
    exact ⟨hV_, hC_⟩
   replace c16 := Bool.eq_false_iff.mpr c16
   subst c16
   rw [if_neg (show ¬ (false = true) by decide)] at H
   replace H := ifI_ H; obtain ⟨c17, H⟩ := H
   have c17b0 := eq_true c17
   have c17b1 : decide (0 ≤ (l0_0.length : Int)) = true := decide_eq_true c17
   clear c17
   replace H := ifI_ H; obtain ⟨c18, H⟩ := H
   have c18b0 := eq_true c18
   have c18b1 : decide (((l0_0.length : Int) : Int).toNat ≤ 35184372088832) = true := decide_eq_true c18
   clear c18
   obtain ⟨y1, i0⟩ : ∃ y_ : List Int, y_ = (List.replicate ((l0_0.length : Int) : Int).toNat 0) := ⟨_, rfl⟩
   replace H : (sleuthref12_SessionMay.l0 kj1 y1 0 l0_0 a0_1 l0_2) = some r := by first | (rw [i0]; with_reducible exact H) | (have H2_ := (Option.bind_some _ _).symm.trans H; rw [i0]; with_reducible exact H2_) | (have H2_ := (Option.bind_some _ _).symm.trans H; with_reducible exact H2_) | with_reducible exact H | (rw [i0]; exact H) | exact H
   have Y0 := a_ i0
   clear i0
   have H' := a_ H
   clear H
   obtain ⟨z15, z16, z17, f17, f18, f19⟩ := bx3_ B0.out
   go_wp2_with (first | ((with_reducible refine gate_dst (N := 26) rfl ?_); (try (refine gate_guard (by rfl) ?_; dsimp only)); refine Kd.R_make (Kd.int .i64) _ 3 rfl (N := 26) rfl 41 _ _ rfl (l0_0.length : Int) rfl rfl Tryz.underlying41 (.int .i64 0) 8 info3 rfl (by decide) (by omega) 0 (ok := fun _ => True) (okp := fun _ => True) rfl (fun _ hk => hk) trivial (of_decide_eq_true hA_) (Nat.le_trans (Nat.mul_le_mul_right _ (of_decide_eq_true hA_ : (l0_0.length : Int).toNat ≤ 35184372088832)) (by omega)) (Below.refl _ _) (Nat.le_refl _) ?_; intro v1 w7 ho21 hb hg_ hnew_; clear hg_ hnew_; (first | rw [← Y0.out] at ho21 | (simp only [Int.reduceToNat] at ho21; rw [← Y0.out] at ho21)); have P0 := a_ (Kd.R_lower ho21 (below_size hC_)); replace B0 := a_ (bB_ B0.out hb); replace HB := a_ (below_step hC_ hb); clear hb ho21))
   go_loopg [4] kj1 (fun kq v4 w' => ∃ (x1 : List Int) (x0 : Int), v4 = .int .i64 x0 ∧ Aside0 (sleuthref12_SessionMay.l0 kq x1 x0 l0_0 a0_1 l0_2 = some r) ∧ Aside0 (kq ≤ kj1) ∧ Aside0 (Kd.R (Kd.int .i64) 3 w' w.heap.size (fun _ => True) v1 x1) ∧ Aside0 (w'.heap[g2]? = some (.cells #[(.slice A0_0 l0_0.length c0_0), .int .i64 a0_1, (.slice A0_2 l0_2.length c0_2)] 25 (0, 0))) ∧ Aside0 (Below w.heap.size w w'))
   case atStart => exact ⟨(y1), (0), hW_, H', ⟨Nat.le_refl _⟩, ⟨hR_ P0.out⟩, ⟨(hK_ B0.out)⟩, ⟨hC_⟩⟩
   case round =>
    clear H'
    try clear c1
    try clear p2
    try clear c5
    try clear c7
    try clear c16
    try clear c17
    try clear c17b0
    try clear c17b1
    try clear c18
    try clear c18b0
    try clear c18b1
    try clear z6
    try clear z7
    try clear z8
    try clear z9
    try clear z10
    try clear z11
    try clear z12
    try clear z13
    try clear z14
    try clear z0
    try clear z1
    try clear z2
    try clear z15
    try clear z16
    try clear z17
    try clear z3
    try clear z4
    try clear z5
    try clear f8
    try clear f9
    try clear f10
    try clear f11
    try clear f12
    try clear f13
    try clear f14
    try clear f15
    try clear f16
    try clear f2
    try clear f3
    try clear f4
    try clear f17
    try clear f18
    try clear f19
    try clear f5
    try clear f6
    try clear f7
    try clear p2
    obtain ⟨x1, x0, rfl, HA, HK2, O0, B0, HB⟩ := hrel
    cases gk with
    | zero => exact absurd HA.out (by simp [sleuthref12_SessionMay.l0])
    | succ k2 =>
     have H := HA.out
     clear HA
     simp only [sleuthref12_SessionMay.l0] at H
     by_cases c22 : x0 < (l0_2.length : Int)
     case neg =>
      rw [if_neg c22] at H
      have c22b0 : decide (x0 < (l0_2.length : Int)) = false := decide_eq_false c22
      clear c22
      obtain rfl := Option.some.inj H
      obtain ⟨z18, z19, z20, f20, f21, f22⟩ := bx3_ B0.out
      go_wp2
      go_ret
      exact ⟨hV_, hC_⟩
     rw [if_pos c22] at H
     have c22b0 : decide (x0 < (l0_2.length : Int)) = true := decide_eq_true c22
     clear c22
     replace H := ifI_ H; obtain ⟨c23, H⟩ := H
     have c23b0 : decide (0 ≤ x0) = true := decide_eq_true c23
     clear c23
     replace H := Option.bind_eq_some_iff.mp H
     obtain ⟨⟨t0, t1⟩, A240, H⟩ := H
     try dsimp only at H
     have A24 := a_ A240
     clear A240
     by_cases c25 : t0 = 0
     case neg =>
      rw [if_neg c25] at H
      have c25b0 : (t0 == 0) = false := beq_eq_false_iff_ne.mpr c25
      have c25b1 : (t0 != 0) = true := bne_iff_ne.mpr c25
      obtain rfl := Option.some.inj H
      obtain ⟨z21, z22, z23, f23, f24, f25⟩ := bx3_ B0.out
      have p418 : 0 ≤ (x0 : Int) := of_decide_eq_true hA_
      have q418 : x0 < (l0_2.length : Int) := of_decide_eq_true hA_
      obtain ⟨d0, e418, h0, h1⟩ := at_T53 HR0_2.out x0 p418 q418
      cases e418
      replace h0 := cl_ HB.out h0
      replace h1 := cl_ HB.out h1
      replace p418 := eq_true p418
      replace q418 := eq_true q418
      go_wp2_with (first | ((with_reducible refine gate_dst (N := 5) rfl ?_); (try (refine gate_guard (by rfl) ?_; dsimp only)); refine boxE_ 5 #[.int .i64 0, .int .i64 0] 53 ?_; intro g0 hg w8 hbox hb; replace O0 := a_ (Kd.R_below (hR_ O0.out) hb); have B1 := a_ (hbox); have E0 := a_ ((gE_ hg : w.heap.size ≤ g0)); replace HB := a_ (below_step hC_ hb); have N0 := a_ ((bL_ B0.out hg : g2 ≠ g0)); have N3 := a_ ((bG_ B0.out hg : g0 ≠ g2)); replace B0 := a_ (bB_ B0.out hb); clear hb hbox hg; have m0 := N3.out; have n0 := N0.out; obtain ⟨z24, z25, f26, f27⟩ := bx2_ B1.out; obtain ⟨z26, z27, z28, f28, f29, f30⟩ := bx3_ B0.out; obtain ⟨a1, o1, e1⟩ := Kd.R_slice O0.out; subst e1) | ((with_reducible refine gate_callee (f := 33) rfl ?_); refine goesL_ (some 44) rfl rfl Tryz.func33 (by kernel_rfl) rfl #[.slice A0_0 l0_0.length c0_0, .int .i64 a0_1, .slice a1 x1.length o1] rfl hL_ ?_; (with_reducible refine (sleuthref12_asks.calls k2 _ _ l0_0 a0_1 _ _ x1 t0 t1 _ ?s1 ?s2 ?s3 ?s4 A24.out).mono ?_); (case s1 => exact Kd.C_below HR0_0.out hC_); (case s2 => exact HC0_0.out); (case s3 => refine (Kd.R_reads' (e := 3) (base := w.heap.size) (ok := fun k_ => True) (n := x1.length) (c := o1) ?_).2.2; exact (by (with_reducible repeat (first | apply Kd.R_alloc | apply Kd.R_drewN | apply Kd.R_drew)); exact (Kd.R_mono (rF_ (rF_ (Kd.R_types O0.out B1.out (by decide)))) (fun _ h_ => h_.1)))); (case s4 => exact (Kd.R_reads' O0.out).2.1); rintro e w78 ⟨rfl, hb⟩; refine ⟨_, rfl, ?_⟩; replace O0 := a_ (Kd.R_below (by (with_reducible repeat (first | apply Kd.R_alloc | apply Kd.R_drewN | apply Kd.R_drew)); exact (Kd.R_mono (rF_ (rF_ (Kd.R_types O0.out B1.out (by decide)))) (fun _ h_ => h_.1))) hb); replace B0 := a_ (blk_below (g := g2) (o := .cells #[.slice A0_0 l0_0.length c0_0, .int .i64 a0_1, .slice (some d0) l0_2.length c0_2] 25 (0, 0)) (by (with_reducible repeat (first | refine blk_drewN ?_ _ | refine blk_drew ?_ | refine blk_alloc ?_ _)); exact (bF_ (bF_ (hK_ B0.out) N0.out) N0.out)) hb); replace B1 := a_ (blk_below (g := g0) (o := .cells #[.int .i64 ((rd_T53 l0_2 x0).f0), .int .i64 ((rd_T53 l0_2 x0).f1)] 53 (0, 0)) (by (with_reducible repeat (first | refine blk_drewN ?_ _ | refine blk_drew ?_ | refine blk_alloc ?_ _)); exact (bP_ (bP_ (hK_ B1.out)))) hb); replace HB := a_ (below_step hC_ hb); (try clear hb); (try clear hb2); (try clear hk); (try clear hi)) | ((with_reducible refine gate_dst (N := 6) rfl ?_); (try (refine gate_guard (by rfl) ?_; dsimp only)); refine boxE_ 6 #[.int .i64 0, .int .i64 0] 49 ?_; intro g1 hg w79 hbox hb; replace O0 := a_ (Kd.R_below (hR_ O0.out) hb); have B2 := a_ (hbox); have E1 := a_ ((gE_ hg : w.heap.size ≤ g1)); replace HB := a_ (below_step hC_ hb); have N1 := a_ ((bL_ B0.out hg : g2 ≠ g1)); have N4 := a_ ((bG_ B0.out hg : g1 ≠ g2)); replace B0 := a_ (bB_ B0.out hb); have N2 := a_ ((bL_ B1.out hg : g0 ≠ g1)); have N5 := a_ ((bG_ B1.out hg : g1 ≠ g0)); replace B1 := a_ (bB_ B1.out hb); clear hb hbox hg; have m1 := N4.out; have n1 := N1.out; have m2 := N5.out; have n2 := N2.out; obtain ⟨z29, z30, f31, f32⟩ := bx2_ B2.out))
      go_ret
      exact ⟨hV_, hC_⟩
     rw [if_pos c25] at H
     have c25b0 : (t0 == 0) = true := beq_iff_eq.mpr c25
     have c25b1 : (t0 != 0) = false := bne_eq_false_iff_eq.mpr c25
     clear c25
     by_cases c26 : t1 = ((rd_T53 l0_2 x0).f0)
     case neg =>
      rw [if_neg c26] at H
      have c26b0 : (t1 == ((rd_T53 l0_2 x0).f0)) = false := beq_eq_false_iff_ne.mpr c26
      have c26b1 : (t1 != ((rd_T53 l0_2 x0).f0)) = true := bne_iff_ne.mpr c26
      obtain rfl := Option.some.inj H
      obtain ⟨z31, z32, z33, f33, f34, f35⟩ := bx3_ B0.out
      have p418 : 0 ≤ (x0 : Int) := of_decide_eq_true hA_
      have q418 : x0 < (l0_2.length : Int) := of_decide_eq_true hA_
      obtain ⟨d0, e418, h0, h1⟩ := at_T53 HR0_2.out x0 p418 q418
      cases e418
      replace h0 := cl_ HB.out h0
      replace h1 := cl_ HB.out h1
      replace p418 := eq_true p418
      replace q418 := eq_true q418
      go_wp2_with (first | ((with_reducible refine gate_dst (N := 5) rfl ?_); (try (refine gate_guard (by rfl) ?_; dsimp only)); refine boxE_ 5 #[.int .i64 0, .int .i64 0] 53 ?_; intro g0 hg w61 hbox hb; replace O0 := a_ (Kd.R_below (hR_ O0.out) hb); have B1 := a_ (hbox); have E0 := a_ ((gE_ hg : w.heap.size ≤ g0)); replace HB := a_ (below_step hC_ hb); have N0 := a_ ((bL_ B0.out hg : g2 ≠ g0)); have N3 := a_ ((bG_ B0.out hg : g0 ≠ g2)); replace B0 := a_ (bB_ B0.out hb); clear hb hbox hg; have m3 := N3.out; have n3 := N0.out; obtain ⟨z34, z35, f36, f37⟩ := bx2_ B1.out; obtain ⟨z36, z37, z38, f38, f39, f40⟩ := bx3_ B0.out; obtain ⟨a2, o2, e2⟩ := Kd.R_slice O0.out; subst e2) | ((with_reducible refine gate_callee (f := 33) rfl ?_); refine goesL_ (some 44) rfl rfl Tryz.func33 (by kernel_rfl) rfl #[.slice A0_0 l0_0.length c0_0, .int .i64 a0_1, .slice a2 x1.length o2] rfl hL_ ?_; (with_reducible refine (sleuthref12_asks.calls k2 _ _ l0_0 a0_1 _ _ x1 t0 t1 _ ?s1 ?s2 ?s3 ?s4 A24.out).mono ?_); (case s1 => exact Kd.C_below HR0_0.out hC_); (case s2 => exact HC0_0.out); (case s3 => refine (Kd.R_reads' (e := 3) (base := w.heap.size) (ok := fun k_ => True) (n := x1.length) (c := o2) ?_).2.2; exact (by (with_reducible repeat (first | apply Kd.R_alloc | apply Kd.R_drewN | apply Kd.R_drew)); exact (Kd.R_mono (rF_ (rF_ (Kd.R_types O0.out B1.out (by decide)))) (fun _ h_ => h_.1)))); (case s4 => exact (Kd.R_reads' O0.out).2.1); rintro e w66 ⟨rfl, hb⟩; refine ⟨_, rfl, ?_⟩; replace O0 := a_ (Kd.R_below (by (with_reducible repeat (first | apply Kd.R_alloc | apply Kd.R_drewN | apply Kd.R_drew)); exact (Kd.R_mono (rF_ (rF_ (Kd.R_types O0.out B1.out (by decide)))) (fun _ h_ => h_.1))) hb); replace B0 := a_ (blk_below (g := g2) (o := .cells #[.slice A0_0 l0_0.length c0_0, .int .i64 a0_1, .slice (some d0) l0_2.length c0_2] 25 (0, 0)) (by (with_reducible repeat (first | refine blk_drewN ?_ _ | refine blk_drew ?_ | refine blk_alloc ?_ _)); exact (bF_ (bF_ (hK_ B0.out) N0.out) N0.out)) hb); replace B1 := a_ (blk_below (g := g0) (o := .cells #[.int .i64 ((rd_T53 l0_2 x0).f0), .int .i64 ((rd_T53 l0_2 x0).f1)] 53 (0, 0)) (by (with_reducible repeat (first | refine blk_drewN ?_ _ | refine blk_drew ?_ | refine blk_alloc ?_ _)); exact (bP_ (bP_ (hK_ B1.out)))) hb); replace HB := a_ (below_step hC_ hb); (try clear hb); (try clear hb2); (try clear hk); (try clear hi)) | ((with_reducible refine gate_dst (N := 6) rfl ?_); (try (refine gate_guard (by rfl) ?_; dsimp only)); refine boxE_ 6 #[.int .i64 0, .int .i64 0] 49 ?_; intro g1 hg w67 hbox hb; replace O0 := a_ (Kd.R_below (hR_ O0.out) hb); have B2 := a_ (hbox); have E1 := a_ ((gE_ hg : w.heap.size ≤ g1)); replace HB := a_ (below_step hC_ hb); have N1 := a_ ((bL_ B0.out hg : g2 ≠ g1)); have N4 := a_ ((bG_ B0.out hg : g1 ≠ g2)); replace B0 := a_ (bB_ B0.out hb); have N2 := a_ ((bL_ B1.out hg : g0 ≠ g1)); have N5 := a_ ((bG_ B1.out hg : g1 ≠ g0)); replace B1 := a_ (bB_ B1.out hb); clear hb hbox hg; have m4 := N4.out; have n4 := N1.out; have m5 := N5.out; have n5 := N2.out; obtain ⟨z39, z40, f41, f42⟩ := bx2_ B2.out; obtain ⟨z41, z42, f43, f44⟩ := bx2_ B1.out))
      go_ret
      exact ⟨hV_, hC_⟩
     rw [if_pos c26] at H
     have c26b0 : (t1 == ((rd_T53 l0_2 x0).f0)) = true := beq_iff_eq.mpr c26
     have c26b1 : (t1 != ((rd_T53 l0_2 x0).f0)) = false := bne_eq_false_iff_eq.mpr c26
     clear c26
     replace H := Option.bind_eq_some_iff.mp H
     obtain ⟨t4, A270, H⟩ := H
     try dsimp only at H
     have A27 := a_ A270
     clear A270
     by_cases c28 : t4 = true
     case neg =>
      replace c28 := Bool.eq_false_iff.mpr c28
      subst c28
      rw [if_neg (show ¬ (false = true) by decide)] at H
      obtain rfl := Option.some.inj H
      obtain ⟨z43, z44, z45, f45, f46, f47⟩ := bx3_ B0.out
      have p418 : 0 ≤ (x0 : Int) := of_decide_eq_true hA_
      have q418 : x0 < (l0_2.length : Int) := of_decide_eq_true hA_
      obtain ⟨d0, e418, h0, h1⟩ := at_T53 HR0_2.out x0 p418 q418
      cases e418
      replace h0 := cl_ HB.out h0
      replace h1 := cl_ HB.out h1
      replace p418 := eq_true p418
      replace q418 := eq_true q418
      go_wp2_with (first | ((with_reducible refine gate_dst (N := 5) rfl ?_); (try (refine gate_guard (by rfl) ?_; dsimp only)); refine boxE_ 5 #[.int .i64 0, .int .i64 0] 53 ?_; intro g0 hg w49 hbox hb; replace O0 := a_ (Kd.R_below (hR_ O0.out) hb); have B1 := a_ (hbox); have E0 := a_ ((gE_ hg : w.heap.size ≤ g0)); replace HB := a_ (below_step hC_ hb); have N0 := a_ ((bL_ B0.out hg : g2 ≠ g0)); have N3 := a_ ((bG_ B0.out hg : g0 ≠ g2)); replace B0 := a_ (bB_ B0.out hb); clear hb hbox hg; have m6 := N3.out; have n6 := N0.out; obtain ⟨z46, z47, f48, f49⟩ := bx2_ B1.out; obtain ⟨z48, z49, z50, f50, f51, f52⟩ := bx3_ B0.out; obtain ⟨a3, o3, e3⟩ := Kd.R_slice O0.out; subst e3) | ((with_reducible refine gate_callee (f := 33) rfl ?_); refine goesL_ _ rfl rfl Tryz.func33 (by kernel_rfl) rfl #[.slice A0_0 l0_0.length c0_0, .int .i64 a0_1, .slice a3 x1.length o3] rfl hL_ ?_; (with_reducible refine (sleuthref12_asks.calls k2 _ _ l0_0 a0_1 _ _ x1 t0 t1 _ ?s1 ?s2 ?s3 ?s4 A24.out).mono ?_); (case s1 => exact Kd.C_below HR0_0.out hC_); (case s2 => exact HC0_0.out); (case s3 => refine (Kd.R_reads' (e := 3) (base := w.heap.size) (ok := fun k_ => True) (n := x1.length) (c := o3) ?_).2.2; exact (by (with_reducible repeat (first | apply Kd.R_alloc | apply Kd.R_drewN | apply Kd.R_drew)); exact (Kd.R_mono (rF_ (rF_ (Kd.R_types O0.out B1.out (by decide)))) (fun _ h_ => h_.1)))); (case s4 => exact (Kd.R_reads' O0.out).2.1); rintro e w54 ⟨rfl, hb⟩; refine ⟨_, rfl, ?_⟩; replace O0 := a_ (Kd.R_below (by (with_reducible repeat (first | apply Kd.R_alloc | apply Kd.R_drewN | apply Kd.R_drew)); exact (Kd.R_mono (rF_ (rF_ (Kd.R_types O0.out B1.out (by decide)))) (fun _ h_ => h_.1))) hb); replace B0 := a_ (blk_below (g := g2) (o := .cells #[.slice A0_0 l0_0.length c0_0, .int .i64 a0_1, .slice (some d0) l0_2.length c0_2] 25 (0, 0)) (by (with_reducible repeat (first | refine blk_drewN ?_ _ | refine blk_drew ?_ | refine blk_alloc ?_ _)); exact (bF_ (bF_ (hK_ B0.out) N0.out) N0.out)) hb); replace B1 := a_ (blk_below (g := g0) (o := .cells #[.int .i64 ((rd_T53 l0_2 x0).f0), .int .i64 ((rd_T53 l0_2 x0).f1)] 53 (0, 0)) (by (with_reducible repeat (first | refine blk_drewN ?_ _ | refine blk_drew ?_ | refine blk_alloc ?_ _)); exact (bP_ (bP_ (hK_ B1.out)))) hb); replace HB := a_ (below_step hC_ hb); (try clear hb); (try clear hb2); (try clear hk); (try clear hi)) | ((with_reducible refine gate_dst (N := 6) rfl ?_); (try (refine gate_guard (by rfl) ?_; dsimp only)); refine boxE_ 6 #[.int .i64 0, .int .i64 0] 49 ?_; intro g1 hg w55 hbox hb; replace O0 := a_ (Kd.R_below (hR_ O0.out) hb); have B2 := a_ (hbox); have E1 := a_ ((gE_ hg : w.heap.size ≤ g1)); replace HB := a_ (below_step hC_ hb); have N1 := a_ ((bL_ B0.out hg : g2 ≠ g1)); have N4 := a_ ((bG_ B0.out hg : g1 ≠ g2)); replace B0 := a_ (bB_ B0.out hb); have N2 := a_ ((bL_ B1.out hg : g0 ≠ g1)); have N5 := a_ ((bG_ B1.out hg : g1 ≠ g0)); replace B1 := a_ (bB_ B1.out hb); clear hb hbox hg; have m7 := N4.out; have n7 := N1.out; have m8 := N5.out; have n8 := N2.out; obtain ⟨z51, z52, f53, f54⟩ := bx2_ B2.out; obtain ⟨z53, z54, f55, f56⟩ := bx2_ B1.out) | (go_at_call 25; (with_reducible refine (sleuthref12_markMay.calls ((rd_T53 l0_2 x0).f1) false _ A27.out).mono ?_); rintro e w' ⟨rfl, ⟨nd, rfl⟩⟩))
      go_ret
      exact ⟨hV_, hC_⟩
     subst c28
     rw [if_pos rfl] at H
     replace H := ifI_ H; obtain ⟨c29, H⟩ := H
     have c29b0 : decide (0 ≤ ((rd_T53 l0_2 x0).f0)) = true := decide_eq_true c29
     clear c29
     replace H := ifI_ H; obtain ⟨c30, H⟩ := H
     have c30b0 : decide (((rd_T53 l0_2 x0).f0) < (x1.length : Int)) = true := decide_eq_true c30
     clear c30
     obtain ⟨y0, i1⟩ : ∃ y_ : List Int, y_ = (x1.set (((rd_T53 l0_2 x0).f0) : Int).toNat ((rd_T53 l0_2 x0).f1)) := ⟨_, rfl⟩
     replace H : (sleuthref12_SessionMay.l0 k2 y0 (wrap64 (x0 + 1)) l0_0 a0_1 l0_2) = some r := by first | (rw [i1]; with_reducible exact H) | (have H2_ := (Option.bind_some _ _).symm.trans H; rw [i1]; with_reducible exact H2_) | (have H2_ := (Option.bind_some _ _).symm.trans H; with_reducible exact H2_) | with_reducible exact H | (rw [i1]; exact H) | exact H
     have Y1 := a_ i1
     clear i1
     have H' := a_ H
     clear H
     obtain ⟨z55, z56, z57, f57, f58, f59⟩ := bx3_ B0.out
     have p418 : 0 ≤ (x0 : Int) := of_decide_eq_true hA_
     have q418 : x0 < (l0_2.length : Int) := of_decide_eq_true hA_
     obtain ⟨d0, e418, h0, h1⟩ := at_T53 HR0_2.out x0 p418 q418
     cases e418
     replace h0 := cl_ HB.out h0
     replace h1 := cl_ HB.out h1
     replace p418 := eq_true p418
     replace q418 := eq_true q418
     go_wp2_with (first | ((with_reducible refine gate_dst (N := 5) rfl ?_); (try (refine gate_guard (by rfl) ?_; dsimp only)); refine boxE_ 5 #[.int .i64 0, .int .i64 0] 53 ?_; intro g0 hg w33 hbox hb; replace O0 := a_ (Kd.R_below (hR_ O0.out) hb); have B1 := a_ (hbox); have E0 := a_ ((gE_ hg : w.heap.size ≤ g0)); replace HB := a_ (below_step hC_ hb); have N0 := a_ ((bL_ B0.out hg : g2 ≠ g0)); have N3 := a_ ((bG_ B0.out hg : g0 ≠ g2)); replace B0 := a_ (bB_ B0.out hb); clear hb hbox hg; have m9 := N3.out; have n9 := N0.out; obtain ⟨z58, z59, f60, f61⟩ := bx2_ B1.out; obtain ⟨z60, z61, z62, f62, f63, f64⟩ := bx3_ B0.out; obtain ⟨a0, o0, e4⟩ := Kd.R_slice O0.out; subst e4) | ((with_reducible refine gate_callee (f := 33) rfl ?_); refine goesL_ _ rfl rfl Tryz.func33 (by kernel_rfl) rfl #[.slice A0_0 l0_0.length c0_0, .int .i64 a0_1, .slice a0 x1.length o0] rfl hL_ ?_; (with_reducible refine (sleuthref12_asks.calls k2 _ _ l0_0 a0_1 _ _ x1 t0 t1 _ ?s1 ?s2 ?s3 ?s4 A24.out).mono ?_); (case s1 => exact Kd.C_below HR0_0.out hC_); (case s2 => exact HC0_0.out); (case s3 => refine (Kd.R_reads' (e := 3) (base := w.heap.size) (ok := fun k_ => True) (n := x1.length) (c := o0) ?_).2.2; exact (by (with_reducible repeat (first | apply Kd.R_alloc | apply Kd.R_drewN | apply Kd.R_drew)); exact (Kd.R_mono (rF_ (rF_ (Kd.R_types O0.out B1.out (by decide)))) (fun _ h_ => h_.1)))); (case s4 => exact (Kd.R_reads' O0.out).2.1); rintro e w38 ⟨rfl, hb⟩; refine ⟨_, rfl, ?_⟩; replace O0 := a_ (Kd.R_below (by (with_reducible repeat (first | apply Kd.R_alloc | apply Kd.R_drewN | apply Kd.R_drew)); exact (Kd.R_mono (rF_ (rF_ (Kd.R_types O0.out B1.out (by decide)))) (fun _ h_ => h_.1))) hb); replace B0 := a_ (blk_below (g := g2) (o := .cells #[.slice A0_0 l0_0.length c0_0, .int .i64 a0_1, .slice (some d0) l0_2.length c0_2] 25 (0, 0)) (by (with_reducible repeat (first | refine blk_drewN ?_ _ | refine blk_drew ?_ | refine blk_alloc ?_ _)); exact (bF_ (bF_ (hK_ B0.out) N0.out) N0.out)) hb); replace B1 := a_ (blk_below (g := g0) (o := .cells #[.int .i64 ((rd_T53 l0_2 x0).f0), .int .i64 ((rd_T53 l0_2 x0).f1)] 53 (0, 0)) (by (with_reducible repeat (first | refine blk_drewN ?_ _ | refine blk_drew ?_ | refine blk_alloc ?_ _)); exact (bP_ (bP_ (hK_ B1.out)))) hb); replace HB := a_ (below_step hC_ hb); (try clear hb); (try clear hb2); (try clear hk); (try clear hi)) | ((with_reducible refine gate_dst (N := 6) rfl ?_); (try (refine gate_guard (by rfl) ?_; dsimp only)); refine boxE_ 6 #[.int .i64 0, .int .i64 0] 49 ?_; intro g1 hg w4 hbox hb; replace O0 := a_ (Kd.R_below (hR_ O0.out) hb); have B2 := a_ (hbox); have E1 := a_ ((gE_ hg : w.heap.size ≤ g1)); replace HB := a_ (below_step hC_ hb); have N1 := a_ ((bL_ B0.out hg : g2 ≠ g1)); have N4 := a_ ((bG_ B0.out hg : g1 ≠ g2)); replace B0 := a_ (bB_ B0.out hb); have N2 := a_ ((bL_ B1.out hg : g0 ≠ g1)); have N5 := a_ ((bG_ B1.out hg : g1 ≠ g0)); replace B1 := a_ (bB_ B1.out hb); clear hb hbox hg; have m10 := N4.out; have n10 := N1.out; have m11 := N5.out; have n11 := N2.out; obtain ⟨z63, z64, f65, f66⟩ := bx2_ B2.out) | ((with_reducible refine gate_store (t := 49) (p := 6) rfl ?_); refine store_event (t := 49) (p := 6) (v := ?vo_w43) (w1 := ((w4.setCell ⟨g1, 0, none⟩ (.int .i64 t0)).setCell ⟨g1, 1, none⟩ (.int .i64 t1))) ?hg ?ho ?hn ?hr ?_; (case ho => rfl); (case hg => rfl); (case hn => rfl); (case hr => first | (go_simp; done) | (go_simp; rfl)); intro w0 hw; replace O0 : Aside0 (Kd.R (Kd.int .i64) 3 w0 w.heap.size (fun _ => True) (.slice a0 x1.length o0) x1) := ⟨(by rw [hw]; exact (by (with_reducible repeat (first | apply Kd.R_alloc | apply Kd.R_drewN | apply Kd.R_drew)); exact Kd.R_mono (rF_ (rF_ (Kd.R_types O0.out B2.out (by decide)))) (fun _ hk => trivial)))⟩; replace B0 : Aside0 (w0.heap[g2]? = some (.cells #[.slice A0_0 l0_0.length c0_0, .int .i64 a0_1, .slice (some d0) l0_2.length c0_2] 25 (0, 0))) := ⟨(by rw [hw]; exact (bF_ (bF_ (hK_ B0.out) N1.out) N1.out))⟩; replace B1 : Aside0 (w0.heap[g0]? = some (.cells #[.int .i64 ((rd_T53 l0_2 x0).f0), .int .i64 ((rd_T53 l0_2 x0).f1)] 53 (0, 0))) := ⟨(by rw [hw]; exact (bF_ (bF_ (hK_ B1.out) N2.out) N2.out))⟩; replace B2 : Aside0 (w0.heap[g1]? = some (.cells #[.int .i64 t0, .int .i64 t1] 49 (0, 0))) := ⟨(by rw [hw]; exact (bP_ (bP_ (hK_ B2.out))))⟩; replace HB : Aside0 (Below w.heap.size w w0) := ⟨(by rw [hw]; exact hC_)⟩; clear hw; obtain ⟨z65, z66, f67, f68⟩ := bx2_ B2.out; obtain ⟨z67, z68, f69, f70⟩ := bx2_ B1.out) | (go_at_call 25; (with_reducible refine (sleuthref12_markMay.calls ((rd_T53 l0_2 x0).f1) true _ A27.out).mono ?_); rintro e w' ⟨rfl, ⟨nd, rfl⟩⟩; (try (rw [drewN_self w0]; generalize hq_ : World.drewN w0 _ = w0; replace O0 : Aside0 (Kd.R (Kd.int .i64) 3 w0 w.heap.size (fun _ => True) (.slice a0 x1.length o0) x1) := ⟨by rw [← hq_]; exact (hR_ O0.out)⟩; replace B0 : Aside0 (w0.heap[g2]? = some (.cells #[.slice A0_0 l0_0.length c0_0, .int .i64 a0_1, .slice (some d0) l0_2.length c0_2] 25 (0, 0))) := ⟨by rw [← hq_]; exact (hK_ B0.out)⟩; replace B1 : Aside0 (w0.heap[g0]? = some (.cells #[.int .i64 ((rd_T53 l0_2 x0).f0), .int .i64 ((rd_T53 l0_2 x0).f1)] 53 (0, 0))) := ⟨by rw [← hq_]; exact (hK_ B1.out)⟩; replace B2 : Aside0 (w0.heap[g1]? = some (.cells #[.int .i64 t0, .int .i64 t1] 49 (0, 0))) := ⟨by rw [← hq_]; exact (hK_ B2.out)⟩; replace HB : Aside0 (Below w.heap.size w w0) := ⟨by rw [← hq_]; exact hC_⟩; clear hq_; (try have hcu0_0 := bc0_ B0.out); (try have hfu0_0 := blk_frozen B0.out 0); (try have hcu0_1 := bc1_ B0.out); (try have hfu0_1 := blk_frozen B0.out 1); (try have hcu0_2 := bc2_ B0.out); (try have hfu0_2 := blk_frozen B0.out 2); (try have hcu1_0 := bc0_ B1.out); (try have hfu1_0 := blk_frozen B1.out 0); (try have hcu1_1 := bc1_ B1.out); (try have hfu1_1 := blk_frozen B1.out 1); (try have hcu2_0 := bc0_ B2.out); (try have hfu2_0 := blk_frozen B2.out 0); (try have hcu2_1 := bc1_ B2.out); (try have hfu2_1 := blk_frozen B2.out 1))); have p31 : 0 ≤ (((rd_T53 l0_2 x0).f0) : Int) := of_decide_eq_true hA_; have q31 : (((rd_T53 l0_2 x0).f0) : Int) < ((x1.length : Int) : Int) := of_decide_eq_true hA_; obtain ⟨j1, o4, e0, g3, gl31, cl31, HG31⟩ := Kd.R_form O0.out (by omega); (first | cases e0 | (injection e0 with ea_ en_ ec_; (first | subst ea_ | (injection ea_ with ea_; subst ea_)); subst ec_; clear en_)); have J0 := a_ g3; have K0 := a_ HG31; clear g3 gl31 HG31; obtain ⟨h2, hf31_0⟩ := Kd.R_celln 0 O0.out (((rd_T53 l0_2 x0).f0) : Int) p31 q31; replace p31 := eq_true p31; replace q31 := eq_true q31; obtain ⟨hy46_, hz46_⟩ := Kd.R_celln 0 O0.out (((rd_T53 l0_2 x0).f0) : Int) (of_decide_eq_true hA_) (of_decide_eq_true hA_); have HP46 := Kd.R_putg O0.out (((rd_T53 l0_2 x0).f0) : Int) ((rd_T53 l0_2 x0).f1)) | ((with_reducible refine gate_store (t := 3) (p := 66) rfl ?_); refine store_event (t := 3) (p := 66) (v := ?vo_w47) (w1 := (w0.setCell ⟨j1, (((rd_T53 l0_2 x0).f0) : Int).toNat, none⟩ (.int .i64 ((rd_T53 l0_2 x0).f1)))) ?hg ?ho ?hn ?hr ?_; (case ho => rfl); (case hg => rfl); (case hn => rfl); (case hr => first | (go_simp; done) | (go_simp; rfl)); intro w2 hw; have hg : w0.grownBy w2 (some j1) := (by rw [hw]; exact HP46.2); have hp_ : Kd.R (Kd.int .i64) 3 w2 w.heap.size (fun _ => True) (.slice (some ⟨j1, 0, none⟩) x1.length o0) y0 := (by rw [hw, Y1.out]; exact HP46.1); clear HP46; replace B0 := a_ (blk_grown (hK_ B0.out) hg (Kd.R_ne O0.out B0.out (by decide))); replace B1 := a_ (blk_grown (hK_ B1.out) hg (Kd.R_ne O0.out B1.out (by decide))); replace B2 := a_ (blk_grown (hK_ B2.out) hg (Kd.R_ne O0.out B2.out (by decide))); replace O0 := a_ (hp_); replace HB := a_ ((by rw [hw]; exact below_set (HB.out) J0.out : Below w.heap.size w w2)); clear hg hw hp_))
     go_roundg k2
     case measure => have := HJ1.out; have := HK2.out; omega
     case rel => exact ⟨(y0), (wrap64 (x0 + 1)), hW_, H', ⟨by have := HJ1.out; have := HK2.out; omega⟩, ⟨hR_ O0.out⟩, ⟨(hK_ B0.out)⟩, ⟨hC_⟩⟩
end Go.Proofs.YtbnljapgnfmmoaaGreatDoor.G
end
section
namespace Go.Proofs.YtbnljapgnfmmoaaGreatDoor.G
open Go.RowKit Go.Proofs.YtbnljapgnfmmoaaGreatDoorW.PrintWords Go.Proofs.YtbnljapgnfmmoaaGreatDoorW.PrintLast Go.Proofs.YtbnljapgnfmmoaaGreatDoorW.PrintMore
set_option linter.unusedVariables false
set_option linter.unusedSimpArgs false
theorem marksS_set {ns : List Nd} {m : List Int} (h : marksS ns m = true) (i : Nat) (v : Int) (hv : markB v = true) : marksS ns (m.set i v) = true := by
  obtain ⟨hm, hl, hx⟩ := marksS_spec h
  have hb := markB_spec hv
  unfold marksS
  rw [hm, List.length_set, hl, decide_eq_true rfl, Bool.true_and, Bool.true_and, Bool.not_eq_true', List.any_eq_false]
  intro x hx'
  rcases List.mem_or_eq_of_mem_set hx' with h1 | rfl
  · rw [hx x h1]; exact Bool.false_ne_true
  · unfold oddB
    rw [decide_eq_false (by omega), decide_eq_false (by omega)]; exact Bool.false_ne_true
theorem marksS_zero {ns : List Nd} (h : mayT ns = true) : marksS ns (List.replicate ns.length 0) = true := by
  unfold marksS
  rw [h, List.length_replicate, decide_eq_true rfl, Bool.true_and, Bool.true_and, Bool.not_eq_true', List.any_eq_false]
  intro x hx
  rw [List.eq_of_mem_replicate hx]
  exact Bool.false_ne_true
/-- are these the answers of a search? -/
def goS (ns : List Nd) (w : Int) : List An → List Int → Bool
  | [], _ => true
  | a :: t, m => if (!((askW w ns m).1 == 0) || (!((askW w ns m).2 == a.f0))) = true then false else if markB a.f1 = true then goS ns w t (m.set a.f0.toNat a.f1) else false
theorem goS_step {ns : List Nd} {w : Int} {a : An} {t : List An} {m : List Int} (h : goS ns w (a :: t) m = true) : (askW w ns m).1 = 0 ∧ (askW w ns m).2 = a.f0 ∧ markB a.f1 = true ∧ goS ns w t (m.set a.f0.toNat a.f1) = true := by
  rw [goS] at h
  by_cases c : (!((askW w ns m).1 == 0) || (!((askW w ns m).2 == a.f0))) = true
  · rw [if_pos c] at h; cases h
  · rw [if_neg c] at h
    by_cases d : markB a.f1 = true
    · rw [if_pos d] at h
      rw [Bool.or_eq_true, Bool.not_eq_true', Bool.not_eq_true', beq_eq_false_iff_ne, beq_eq_false_iff_ne] at c
      exact ⟨Classical.not_not.1 fun e => c (.inl e), Classical.not_not.1 fun e => c (.inr e), d, h⟩
    · rw [if_neg d] at h; cases h
theorem may_l0 (ns : List Nd) (w : Int) (zs : List An) (hz : zs.length ≤ 9223372036854775806) : ∀ (n i : Nat) (m : List Int), i + n = zs.length → marksS ns m = true → Ev (fun k => session_May.l0 k ns w zs m (i : Int)) (goS ns w (zs.drop i) m) := by
  intro n
  induction n with
  | zero =>
    intro i m hi hm
    rw [List.drop_eq_nil_of_le (by omega)]
    refine Ev.step (f := fun _ => some true) (fun k => ?_) (Ev.now _)
    rw [session_May.l0, if_neg (by omega)]
  | succ n ih =>
    intro i m hi hm
    have hw : wrap64 ((i : Int) + 1) = ((i + 1 : Nat) : Int) := by rw [w64 (by omega) (by omega)]; omega
    have hlt : (i : Int) < (zs.length : Int) := by omega
    have hf := askW_facts hm w
    have ha := nextAsk_ev hm w
    have hml := (marksS_spec hm).2.1
    rw [drop_ra zs i (by omega), goS]
    obtain ⟨a, hae⟩ : ∃ a, ra zs (i : Int) = a := ⟨_, rfl⟩
    have hae' : rd_T53 zs (i : Int) = a := hae
    rw [hae]
    generalize askW w ns m = b at ha hf
    refine Ev.step (f := fun k => (next_Ask.f k w ns m).bind fun b => if (!(b.1 == 0) || (!(b.2 == a.f0))) = true then some false else (next_Mark.f a.f1).bind fun t => if t = true then (if 0 ≤ a.f0 ∧ a.f0 < (m.length : Int) then session_May.l0 k ns w zs (m.set a.f0.toNat a.f1) ((i + 1 : Nat) : Int) else none) else some false) (fun k => by rw [session_May.l0, if_pos hlt, hae', hw]) ?_
    refine Ev.bind ha ?_
    by_cases c : (!(b.1 == 0) || (!(b.2 == a.f0))) = true
    · simp only [if_pos c]; exact Ev.now _
    · simp only [if_neg c, mark_eq, Option.bind_some]
      rw [Bool.or_eq_true, Bool.not_eq_true', Bool.not_eq_true', beq_eq_false_iff_ne, beq_eq_false_iff_ne] at c
      have e1 : b.2 = a.f0 := Classical.not_not.1 fun e => c (.inr e)
      by_cases d : markB a.f1 = true
      · have g : 0 ≤ a.f0 ∧ a.f0 < (m.length : Int) := by rw [← e1]; exact ⟨hf.1, by omega⟩
        simp only [if_pos d, if_pos g]
        exact ih (i + 1) _ (by omega) (marksS_set hm _ _ d)
      · simp only [if_neg d]; exact Ev.now _
def sessS (ns : List Nd) (w : Int) (zs : List An) : Bool := if (mayT ns && wayB w) = true then goS ns w zs (List.replicate ns.length 0) else false
theorem fresh_ev (ns : List Nd) (w : Int) : Ev (fun k => session_fresh.f k ns w) (mayT ns && wayB w) := by
  unfold session_fresh.f
  refine Ev.bind (trailMay_ev ns) ?_
  cases mayT ns with
  | false => simp only [if_neg Bool.false_ne_true, Bool.false_and]; exact Ev.now _
  | true => simp only [if_pos, Bool.true_and, way_eq]; exact Ev.now _
theorem sessMay_ev (ns : List Nd) (w : Int) (zs : List An) (hz : zs.length ≤ 9223372036854775806) : Ev (fun k => session_May.f k ns w zs) (sessS ns w zs) := by
  unfold session_May.f sessS
  refine Ev.bind (fresh_ev ns w) ?_
  by_cases c : (mayT ns && wayB w) = true
  · simp only [if_pos c]
    rw [Bool.and_eq_true] at c
    have := may_l0 ns w zs hz zs.length 0 (List.replicate ns.length 0) (by omega) (marksS_zero c.1)
    rw [List.drop_zero] at this
    exact this
  · simp only [if_neg c]; exact Ev.now _
/-- how many nodes have no mark -/
def zeros : List Int → Nat
  | [] => 0
  | x :: t => (if x = 0 then 1 else 0) + zeros t
theorem zeros_le : ∀ m : List Int, zeros m ≤ m.length
  | [] => Nat.le_refl _
  | x :: t => by
    have := zeros_le t
    rw [zeros, List.length_cons]
    split <;> omega
theorem zeros_set : ∀ (m : List Int) (i : Nat) (v : Int), v ≠ 0 → m.getD i 1 = 0 → zeros (m.set i v) + 1 = zeros m
  | [], i, v, _, h => by simp at h
  | x :: t, 0, v, hv, h => by
    have hx : x = 0 := by simpa using h
    show zeros (v :: t) + 1 = _
    rw [zeros, zeros, if_neg hv, if_pos hx]; omega
  | x :: t, i + 1, v, hv, h => by
    have := zeros_set t i v hv (by simpa using h)
    show zeros (x :: t.set i v) + 1 = _
    rw [zeros, zeros]; omega
theorem getD_rd (m : List Int) (i : Int) (h0 : 0 ≤ i) (h1 : i < (m.length : Int)) : m.getD i.toNat 1 = rd m i := by
  show _ = List.getD _ _ _
  rw [List.getD_eq_getElem?_getD, List.getD_eq_getElem?_getD, List.getElem?_eq_getElem (show i.toNat < m.length by omega)]; rfl
theorem goS_ask {ns : List Nd} {w : Int} {a : An} {t : List An} {m : List Int} (hm : marksS ns m = true) (h : goS ns w (a :: t) m = true) : 0 ≤ a.f0 ∧ a.f0 < (m.length : Int) ∧ rd m a.f0 = 0 ∧ markB a.f1 = true ∧ marksS ns (m.set a.f0.toNat a.f1) = true ∧ goS ns w t (m.set a.f0.toNat a.f1) = true := by
  obtain ⟨h1, h2, h3, h4⟩ := goS_step h
  have hf := askW_facts hm w
  have hl := (marksS_spec hm).2.1
  rw [h2] at hf
  exact ⟨hf.1, by omega, hf.2.2 h1, h3, marksS_set hm _ _ h3, h4⟩
theorem goS_len {ns : List Nd} {w : Int} : ∀ (zs : List An) (m : List Int), marksS ns m = true → goS ns w zs m = true → zs.length ≤ zeros m
  | [], m, _, _ => Nat.zero_le _
  | a :: t, m, hm, h => by
    obtain ⟨h0, h1, h2, h3, h4, h5⟩ := goS_ask hm h
    have ih := goS_len t _ h4 h5
    have hb := markB_spec h3
    have := zeros_set m a.f0.toNat a.f1 (by omega) (by rw [getD_rd m a.f0 h0 h1]; exact h2)
    rw [List.length_cons]; omega
theorem goS_max {ns : List Nd} {w : Int} {zs : List An} (hm : mayT ns = true) (h : goS ns w zs (List.replicate ns.length 0) = true) : zs.length ≤ ns.length := by
  have h1 := goS_len zs _ (marksS_zero hm) h
  have h2 := zeros_le (List.replicate ns.length 0)
  rw [List.length_replicate] at h2
  omega
theorem refSMay_l0 (ns : List Nd) (w : Int) (hw0 : wayB w = true) (zs : List An) (hz : zs.length ≤ 9223372036854775806) : ∀ (n i : Nat) (m : List Int), i + n = zs.length → marksS ns m = true → Ev (fun k => sleuthref12_SessionMay.l0 k m (i : Int) ns w zs) (goS ns w (zs.drop i) m) := by
  intro n
  induction n with
  | zero =>
    intro i m hi hm
    rw [List.drop_eq_nil_of_le (by omega)]
    refine Ev.step (f := fun _ => some true) (fun k => ?_) (Ev.now _)
    rw [sleuthref12_SessionMay.l0, if_neg (by omega)]
  | succ n ih =>
    intro i m hi hm
    have hw : wrap64 ((i : Int) + 1) = ((i + 1 : Nat) : Int) := by rw [w64 (by omega) (by omega)]; omega
    have hlt : (i : Int) < (zs.length : Int) := by omega
    have hi0 : (0 : Int) ≤ (i : Int) := by omega
    have hf := askW_facts hm w
    have ha := asksR_ev hm w hw0
    have hml := (marksS_spec hm).2.1
    rw [drop_ra zs i (by omega), goS]
    obtain ⟨a, hae⟩ : ∃ a, ra zs (i : Int) = a := ⟨_, rfl⟩
    have hae' : rd_T53 zs (i : Int) = a := hae
    rw [hae]
    generalize askW w ns m = b at ha hf
    refine Ev.step (f := fun k => (sleuthref12_asks.f k ns w m).bind fun bt => (if bt.1 = 0 then (if bt.2 = a.f0 then ((sleuthref12_markMay.f a.f1).bind fun t => (if t = true then (if 0 ≤ a.f0 then (if a.f0 < (m.length : Int) then (sleuthref12_SessionMay.l0 k (m.set a.f0.toNat a.f1) ((i + 1 : Nat) : Int) ns w zs) else (none)) else (none)) else (some false))) else (some false)) else (some false))) (fun k => by rw [sleuthref12_SessionMay.l0, if_pos hlt, if_pos hi0, hae', hw]) ?_
    refine Ev.bind ha ?_
    by_cases c1 : b.1 = 0
    · by_cases c2 : b.2 = a.f0
      · have c : ¬ (!(b.1 == 0) || (!(b.2 == a.f0))) = true := by rw [c1, c2]; simp
        simp only [if_pos c1, if_pos c2, if_neg c, markMay_eq, Option.bind_some]
        by_cases d : markB a.f1 = true
        · have g0 : 0 ≤ a.f0 := by rw [← c2]; exact hf.1
          have g1 : a.f0 < (m.length : Int) := by rw [← c2]; omega
          simp only [if_pos d, if_pos g0, if_pos g1]
          exact ih (i + 1) _ (by omega) (marksS_set hm _ _ d)
        · simp only [if_neg d]; exact Ev.now _
      · have c : (!(b.1 == 0) || (!(b.2 == a.f0))) = true := by rw [Bool.or_eq_true]; exact .inr (by simpa using c2)
        simp only [if_pos c1, if_neg c2, if_pos c]; exact Ev.now _
    · have c : (!(b.1 == 0) || (!(b.2 == a.f0))) = true := by rw [Bool.or_eq_true]; exact .inl (by simpa using c1)
      simp only [if_neg c1, if_pos c]; exact Ev.now _
theorem refSMay_ev (ns : List Nd) (hok : okN ns) (w : Int) (zs : List An) (hz : zs.length ≤ 9223372036854775806) : Ev (fun k => sleuthref12_SessionMay.f k ns w zs) (sessS ns w zs) := by
  unfold sleuthref12_SessionMay.f sessS
  refine Ev.bind (refTrail_ev ns hok) ?_
  cases hm : mayT ns with
  | false =>
    simp only [if_neg Bool.false_ne_true, Bool.false_and]
    refine Ev.step (f := fun _ => some false) (fun k => ?_) (Ev.now _)
    rw [sleuthref12_SessionMay.j0, if_pos rfl]
  | true =>
    have hlen := mayT_len hm
    simp only [if_pos, Bool.true_and, wayR_eq, Option.bind_some]
    by_cases d : wayB w = true
    · simp only [if_pos d]
      by_cases c : zs.length ≤ 512
      · rw [decide_eq_false (show ¬ (zs.length : Int) > 512 by omega)]
        have h := refSMay_l0 ns w d zs hz zs.length 0 (List.replicate ns.length 0) (by omega) (marksS_zero hm)
        rw [List.drop_zero] at h
        refine Ev.step (fun k => ?_) h
        rw [sleuthref12_SessionMay.j0, if_neg Bool.false_ne_true, if_pos (by omega), Int.toNat_natCast, if_pos (by omega)]; rfl
      · rw [decide_eq_true (show (zs.length : Int) > 512 by omega)]
        have e : goS ns w zs (List.replicate ns.length 0) = false := by
          rw [← Bool.not_eq_true]
          intro h
          have := goS_max hm h
          omega
        rw [e]
        refine Ev.step (f := fun _ => some false) (fun k => ?_) (Ev.now _)
        rw [sleuthref12_SessionMay.j0, if_pos rfl]
    · simp only [if_neg d]
      refine Ev.step (f := fun _ => some false) (fun k => ?_) (Ev.now _)
      rw [sleuthref12_SessionMay.j0, if_pos rfl]
end Go.Proofs.YtbnljapgnfmmoaaGreatDoor.G
end
section
namespace Go.Proofs.YtbnljapgnfmmoaaGreatDoor.G
open Go.RowKit Go.Proofs.YtbnljapgnfmmoaaGreatDoorW.PrintWords Go.Proofs.YtbnljapgnfmmoaaGreatDoorW.PrintLast Go.Proofs.YtbnljapgnfmmoaaGreatDoorW.PrintMore
set_option maxHeartbeats 8000000
set_option maxRecDepth 100000
attribute [local go_sem] max2_int min2_int max_two min_two max_three min_three max_four min_four   -- for this text's walks alone
set_option linter.unusedVariables false
set_option linter.unusedSimpArgs false

def sleuthref12_with.f (k : Nat) (l0_0 : List (S66)) (a0_1 : Int) (l0_2 : List (S53)) (l1 : List (S53)) : Option ((List (S66)) × Int × (List (S53))) := (sleuthref12_CopyNodes.f k l0_0).bind fun t457 => (some (t457, a0_1, l1))
def sleuthref12_with.T1 : Bool × List (List Nat × List Nat) := (true, [([], []), ([0], [0]), ([1], [1]), ([], []), ([3], [3]), ([], []), ([2, 4, 5], [2, 4, 5]), ([6, 2, 0, 1, 2, 3, 4, 5, 6], [6])])
def sleuthref12_with.B1 : List Nat := [0, 1, 3, 0, 8, 0, 63, 127]
theorem sleuthref12_with.tab1 : rtab .any (opsOf Tryz.f27 1) = sleuthref12_with.T1 := by kernel_rfl
theorem sleuthref12_with.bits1 : waitsOk sleuthref12_with.T1.2 sleuthref12_with.B1 = true := by kernel_rfl
theorem sleuthref12_with.calls (k : Nat) (A0_0 : Option Addr) (c0_0 : Nat) (l0_0 : List (S66)) (a0_1 : Int) (A0_2 : Option Addr) (c0_2 : Nat) (l0_2 : List (S53)) (P1_ : Nat → Prop) (u9000_ : Value) (l1 : List (S53)) (r1 : List (S66)) (r2 : Int) (r3 : List (S53)) (w0 w : World) (hB : Below w0.heap.size w0 w) (hr0_0 : ∀ W_, Kept w W_ (fun k_ => P1_ k_) → Kd.C k66 W_ A0_0 l0_0.length l0_0) (hc0_0 : l0_0.length ≤ c0_0) (hr0_2 : ∀ W_, Kept w W_ (fun k_ => P1_ k_) → Kd.C k53 W_ A0_2 l0_2.length l0_2) (hc0_2 : l0_2.length ≤ c0_2) (ho1 : Kd.R k53 53 w w0.heap.size P1_ u9000_ l1) (h : sleuthref12_with.f k l0_0 a0_1 l0_2 l1 = some (r1, r2, r3)) :
 Calls Tryz.prog 27 #[.agg #[.slice A0_0 l0_0.length c0_0, .int .i64 a0_1, .slice A0_2 l0_2.length c0_2], u9000_] w fun e w' => ∃ v0_ v2_ : Value, e = .returned (.agg #[v0_, .int .i64 r2, v2_]) ∧ Kd.N k66 66 w' w.heap.size (fun k_ => (P1_ k_ ∨ w.heap.size ≤ k_) ∧ some k_ ≠ (v2_ : Value).ownBlock) v0_ r1 ∧ Kd.R k53 53 w' w0.heap.size (fun k_ => (P1_ k_ ∨ w.heap.size ≤ k_)) v2_ r3 ∧ Below w0.heap.size w0 w' ∧ Kept w w' (fun k_ => P1_ k_) := by
 have hu25 := Tryz.underlying25
 have HR0_0 := a_ hr0_0
 have HC0_0 := a_ hc0_0
 clear hr0_0 hc0_0
 have HR0_2 := a_ hr0_2
 have HC0_2 := a_ hc0_2
 clear hr0_2 hc0_2
 have P0 := a_ (show Kd.R k53 53 w w0.heap.size (fun k_ => (P1_ k_ ∨ w.heap.size ≤ k_)) u9000_ l1 from Kd.R_mono ho1 (fun k_ hk => (.inl hk)))
 have HK := a_ (Kept.refl w (fun k_ => P1_ k_))
 have HW0 := a_ hB.size
 have HB := a_ hB
 clear hB
 have H := h; unfold sleuthref12_with.f at H
 clear h
 replace H := Option.bind_eq_some_iff.mp H
 obtain ⟨t0, A30, H⟩ := H
 try dsimp only at H
 have A3 := a_ A30
 clear A30
 simp only [Option.some.injEq, Prod.mk.injEq] at H
 obtain ⟨rfl, rfl, rfl⟩ := H
 go_enter Tryz.func27, Tryz.ntmps27
 try go_wp2_with (first | ((with_reducible refine gate_dst (N := 2) rfl ?_); refine boxE_ 2 #[.slice A0_0 l0_0.length c0_0, .int .i64 a0_1, .slice A0_2 l0_2.length c0_2] 25 ?_; intro g1 hg w4 hbox hb; replace P0 := a_ (Kd.R_below (hR_ P0.out) hb); have B0 := a_ (hbox); have W0 := a_ ((by rw [hg]; exact (by first | exact HK.out.1 | exact (show Kept w _ (fun k_ => P1_ k_) from by repeat (first | (with_reducible first | exact HK.out | apply Kept.alloc | apply Kept.drewN | apply Kept.drew) | exact HK.out)).1) : w.heap.size ≤ g1)); replace HK := a_ (Kept.below (S := (fun k_ => P1_ k_)) (by repeat (first | (with_reducible first | exact HK.out | apply Kept.alloc | apply Kept.drewN | apply Kept.drew) | exact HK.out)) hb); have E0 := a_ ((gE_ hg : w0.heap.size ≤ g1)); replace HB := a_ (below_step hB_ hb); clear hb hbox hg) | ((with_reducible refine gate_dst (N := 4) rfl ?_); refine boxE_ 4 #[.slice none 0 0, .int .i64 0, .slice none 0 0] 25 ?_; intro g0 hg w5 hbox hb; replace P0 := a_ (Kd.R_below (hR_ P0.out) hb); have B1 := a_ (hbox); have W1 := a_ ((by rw [hg]; exact (by first | exact HK.out.1 | exact (show Kept w _ (fun k_ => P1_ k_) from by repeat (first | (with_reducible first | exact HK.out | apply Kept.alloc | apply Kept.drewN | apply Kept.drew | refine Kept.setCell ?_ (.inr W0.out) _) | exact HK.out)).1) : w.heap.size ≤ g0)); replace HK := a_ (Kept.below (S := (fun k_ => P1_ k_)) (by repeat (first | (with_reducible first | exact HK.out | apply Kept.alloc | apply Kept.drewN | apply Kept.drew | refine Kept.setCell ?_ (.inr W0.out) _) | exact HK.out)) hb); have E1 := a_ ((gE_ hg : w0.heap.size ≤ g0)); replace HB := a_ (below_step hC_ hb); have N0 := a_ ((bL_ B0.out hg : g1 ≠ g0)); have N1 := a_ ((bG_ B0.out hg : g0 ≠ g1)); replace B0 := a_ (bB_ B0.out hb); clear hb hbox hg))
 replace P0 := a_ (Kd.R_drew P0.out)
 replace B0 := a_ (blk_drew B0.out)
 replace B1 := a_ (blk_drew B1.out)
 replace HK := a_ (Kept.drew HK.out)
 replace HB := a_ (below_drew1 HB.out)
 refine start_ (n := 8) (S := fun w' => w'.cell? ⟨g1, 0, none⟩ = some (.slice A0_0 l0_0.length c0_0) ∧ w'.cell? ⟨g1, 1, none⟩ = some (.int .i64 a0_1) ∧ w'.cell? ⟨g1, 2, none⟩ = some (.slice A0_2 l0_2.length c0_2)) (ds := []) #[false, false, false, false, false, false, false, false] (by kernel_rfl) rfl rfl ⟨(blk_cell B0.out 0).trans rfl, (blk_cell B0.out 1).trans rfl, (blk_cell B0.out 2).trans rfl⟩ (fun hHeld => ?_); refine with_tabW sleuthref12_with.tab1 sleuthref12_with.bits1 (fun HT_ HW_ => ?_)
 generalize w5.drew = w6 at P0 B0 B1 HK HB hHeld ⊢
 refine pB_ 0 5 HT_.out ?_
 refine pB_ 3 8 HT_.out ?_
 refine pB_ 5 10 HT_.out ?_
 refine tB_ 1 6 HT_.out HW_.out hHeld ?_
 refine tB_ 4 9 HT_.out HW_.out hHeld ?_
 refine one_ (i := 2) (N := some 7) #[true, true, true, true, true, true, false, false] rfl rfl (one_of HT_.out (by kernel_rfl)) (by decide) (fun K hK => ?_)
 refine goes_ Tryz.func34 (by kernel_rfl) rfl #[.slice A0_0 l0_0.length c0_0] (by rfl) rfl rfl hL_ ?_
 with_reducible refine (sleuthref12_CopyNodes.calls k _ _ l0_0 t0 _ ?s1 ?s2 A3.out).mono ?_
 (case s1 => exact Kd.C_kept_now HR0_0.out (by repeat (first | (with_reducible first | exact HK.out | apply Kept.alloc | apply Kept.drewN | apply Kept.drew | refine Kept.setCell ?_ (.inr W0.out) _ | refine Kept.setCell ?_ (.inr W1.out) _) | exact HK.out)))
 (case s2 => exact HC0_0.out)
 rintro e w7 ⟨v0, rfl, ho0, hb⟩
 refine ⟨_, rfl, ?_⟩
 have P1 := a_ (Kd.N_lower (Kd.N_mono (ok' := fun k_ => (P1_ k_ ∨ w.heap.size ≤ k_) ∧ some k_ ≠ (u9000_ : Value).ownBlock ∧ k_ ≠ g1 ∧ k_ ≠ g0) (Kd.S_N (Kd.S_bound ho0)) (fun k_ hk_ => ⟨(.inr (Nat.le_trans (by first | exact HK.out.1 | exact (show Kept w _ (fun k_ => P1_ k_) from by repeat (first | (with_reducible first | exact HK.out | apply Kept.alloc | apply Kept.drewN | apply Kept.drew | refine Kept.setCell ?_ (.inr W0.out) _ | refine Kept.setCell ?_ (.inr W1.out) _) | exact HK.out)).1) hk_.2.1)), (Kd.fresh' (Kd.R_lt (hR_ P0.out)) k_ hk_.2.1), (Kd.freshB (g := g1) (o := .cells #[.slice A0_0 l0_0.length c0_0, .int .i64 a0_1, .slice A0_2 l0_2.length c0_2] 25 (0, 0)) (hK_ B0.out) k_ hk_.2.1), (Kd.freshB (g := g0) (o := .cells #[.slice none 0 0, .int .i64 0, .slice none 0 0] 25 (0, 0)) (hK_ B1.out) k_ hk_.2.1)⟩)) (by first | exact HK.out.1 | exact (show Kept w _ (fun k_ => P1_ k_) from by repeat (first | (with_reducible first | exact HK.out | apply Kept.alloc | apply Kept.drewN | apply Kept.drew | refine Kept.setCell ?_ (.inr W0.out) _ | refine Kept.setCell ?_ (.inr W1.out) _) | exact HK.out)).1))
 replace P0 := a_ (Kd.R_below (hR_ P0.out) hb)
 replace B0 := a_ (bB_ B0.out hb)
 replace B1 := a_ (bB_ B1.out hb)
 replace HK := a_ (Kept.below (S := (fun k_ => P1_ k_)) (by repeat (first | (with_reducible first | exact HK.out | apply Kept.alloc | apply Kept.drewN | apply Kept.drew | refine Kept.setCell ?_ (.inr W0.out) _ | refine Kept.setCell ?_ (.inr W1.out) _) | exact HK.out)) hb)
 replace HB := a_ (below_step hC_ hb)
 (try clear hb)
 (try clear hb2)
 (try clear hk)
 (try clear hi)
 (try clear ho0)
 obtain ⟨a0, o0, e0⟩ := Kd.R_slice P0.out
 (first | subst e0 | (injection e0 with f1_ f2_ f3_; have f4_ := f1_.symm; have f5_ := f3_.symm; clear f1_ f2_ f3_; subst f4_; subst f5_))
 obtain ⟨a1, o1, e1⟩ := Kd.N_slice P1.out
 (first | subst e1 | (injection e1 with f1_ f2_ f3_; have f4_ := f1_.symm; have f5_ := f3_.symm; clear f1_ f2_ f3_; subst f4_; subst f5_))
 refine hK.out _ _ ⟨(blk_cell B0.out 0).trans rfl, (blk_cell B0.out 1).trans rfl, (blk_cell B0.out 2).trans rfl⟩ (fun hHeld => ?_)
 clear hK K
 refine norm_ (a' := ?_) ?_ ?_
 rotate_left
 · show Act.put _ (some 7) _ = _
   simp only [Act.put, List.setIfInBounds_toArray, List.set_cons_zero, List.set_cons_succ, i64_w, i32_w]
   rfl
 refine pB_ 6 11 HT_.out ?_
 refine one_ (i := 7) (N := none) #[true, true, true, true, true, true, true, true] rfl rfl (one_of HT_.out (by kernel_rfl)) (by decide) (fun K hK => ?_)
 have hs10 := bc0_ B1.out
 have hfs10 := blk_frozen B1.out 0
 have hns10_0 := N0.out
 have hms10_0 := N1.out
 have hs11 := bc1_ B1.out
 have hfs11 := blk_frozen B1.out 1
 have hns11_0 := N0.out
 have hms11_0 := N1.out
 have hs12 := bc2_ B1.out
 have hfs12 := blk_frozen B1.out 2
 have hns12_0 := N0.out
 have hms12_0 := N1.out
 refine skip_ (w1 := ?_) (by rfl) rfl ?_ ?_
 rotate_left
 · go_simp
   rfl
 refine hK.out _ _ ⟨((cell_far (p := ⟨g0, _, none⟩) N0.out _).trans (((cell_far (p := ⟨g0, _, none⟩) N0.out _).trans (((cell_far (p := ⟨g0, _, none⟩) N0.out _).trans (hHeld.1)))))), ((cell_far (p := ⟨g0, _, none⟩) N0.out _).trans (((cell_far (p := ⟨g0, _, none⟩) N0.out _).trans (((cell_far (p := ⟨g0, _, none⟩) N0.out _).trans (hHeld.2.1)))))), ((cell_far (p := ⟨g0, _, none⟩) N0.out _).trans (((cell_far (p := ⟨g0, _, none⟩) N0.out _).trans (((cell_far (p := ⟨g0, _, none⟩) N0.out _).trans (hHeld.2.2))))))⟩ (fun hHeld => ?_)
 clear hK K
 refine done_ (done_of HT_.out (by kernel_rfl)) ?_
 try go_wp2
 refine bodyPost_ret (results_cell_row rfl _ _ g0 25 #[.slice a1 t0.length o1, .int .i64 a0_1, .slice a0 l1.length o0] (0, 0) _ rfl (bP_ (bP_ (bP_ (hK_ B1.out)))) Tryz.underlying25 rfl (by kernel_rfl)) rfl ?_
 exact ⟨_, _, hV_, by (with_reducible repeat (first | apply Kd.N_alloc | apply Kd.N_drewN | apply Kd.N_drew)); exact Kd.N_mono (nF_ (nF_ (nF_ (Kd.N_mono P1.out (fun k_ hk => (⟨hk, hk.2.2.2⟩ : _ ∧ k_ ≠ g0)))))) (fun _ hk => ⟨hk.1.1, hk.1.2.1⟩), hR_ (Kd.R_mono (rF_ (rF_ (rF_ (Kd.R_types P0.out B1.out (by decide))))) (fun _ hk => hk.1)), hC_, by repeat (first | (with_reducible first | exact HK.out | apply Kept.alloc | apply Kept.drewN | apply Kept.drew | refine Kept.setCell ?_ (.inr W0.out) _ | refine Kept.setCell ?_ (.inr W1.out) _) | exact HK.out)⟩

end Go.Proofs.YtbnljapgnfmmoaaGreatDoor.G
end
