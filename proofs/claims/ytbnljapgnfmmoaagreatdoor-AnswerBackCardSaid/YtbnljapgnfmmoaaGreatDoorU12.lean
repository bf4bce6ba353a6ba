/- Parts of this proof, one behind the other: NextRef, NextHalf, TSess, G41, G43, G44, NextVals, G42, SessVals, G45, G47, AnsVals. -/
import Derived.Test.YtbnljapgnfmmoaaGreatDoorU10
import Derived.Test.YtbnljapgnfmmoaaGreatDoorG40
import Derived.Test.YtbnljapgnfmmoaaGreatDoorG0
import Derived.Test.YtbnljapgnfmmoaaGreatDoorU2
import Derived.Test.YtbnljapgnfmmoaaGreatDoorU7
import Derived.Test.YtbnljapgnfmmoaaGreatDoorU9
import Derived.Test.YtbnljapgnfmmoaaGreatDoorU5
import Derived.Test.YtbnljapgnfmmoaaGreatDoorU6
section
/- The document's own answers of chapters 18 and 19, for trails and marks that may be, are the program's. -/
namespace Go.Proofs.YtbnljapgnfmmoaaGreatDoor.G
open Go.RowKit Go.Proofs.YtbnljapgnfmmoaaGreatDoorW.PrintWords Go.Proofs.YtbnljapgnfmmoaaGreatDoorW.PrintLast Go.Proofs.YtbnljapgnfmmoaaGreatDoorW.PrintMore
set_option linter.unusedVariables false
set_option linter.unusedSimpArgs false
theorem kidsR_l0 (ns : List Nd) (h : mayT ns = true) (a : Int) (h0 : 0 ≤ a) : ∀ (n i : Nat), i + n = ns.length → Ev (fun k => sleuthref12_kids.l0 k ns a (kidsTo ns a i) (i : Int)) (kidsTo ns a ns.length) := by
  have hlen := mayT_len h
  intro n
  induction n with
  | zero =>
    intro i hi
    obtain rfl : i = ns.length := by omega
    refine Ev.step (f := fun _ => some (kidsTo ns a ns.length)) (fun k => ?_) (Ev.now _)
    rw [sleuthref12_kids.l0, if_neg (by omega)]
  | succ n ih =>
    intro i hi
    have hw : wrap64 ((i : Int) + 1) = ((i + 1 : Nat) : Int) := by rw [w64 (by omega) (by omega)]; omega
    have hpa := mayT_pa h i (by omega)
    refine Ev.step (f := fun k => sleuthref12_kids.l0 k ns a (kidsTo ns a (i + 1)) ((i + 1 : Nat) : Int)) (fun k => ?_) (ih (i + 1) (by omega))
    rw [sleuthref12_kids.l0, if_pos (by omega), if_pos (by omega), hw]
    by_cases c : (rn ns (i : Int)).f1 = a
    · have hk := kidsTo_len ns a i
      rw [if_pos c, if_pos (by omega), kidsTo, if_pos ⟨by unfold pa at hpa; omega, c⟩]
    · rw [if_neg c, kidsTo, if_neg (fun hh => c hh.2)]
theorem kidsR_ev {ns : List Nd} (h : mayT ns = true) (a : Int) (h0 : 0 ≤ a) : Ev (fun k => sleuthref12_kids.f k ns a) (kidsTo ns a ns.length) := kidsR_l0 ns h a h0 ns.length 0 (by omega)
theorem drop_rd (l : List Int) (i : Nat) (h : i < l.length) : l.drop i = rd l (i : Int) :: l.drop (i + 1) := by
  rw [List.drop_eq_getElem_cons h]
  congr 1
  show _ = List.getD _ _ _
  rw [Int.toNat_natCast, List.getD_eq_getElem?_getD, List.getElem?_eq_getElem h]; rfl
theorem firstOf_l0 {L ms : List Int} (hL : ∀ x ∈ L, 0 ≤ x ∧ x < (ms.length : Int)) (hl : L.length ≤ 9223372036854775806) (m : Int) : ∀ n i : Nat, i + n = L.length → Ev (fun k => sleuthref12_firstOf.l0 k L ms m (i : Int)) (((L.drop i).find? fun k => rd ms k == m).getD (-1)) := by
  intro n
  induction n with
  | zero =>
    intro i hi
    rw [List.drop_eq_nil_of_le (by omega)]
    refine Ev.step (f := fun _ => some (-1)) (fun k => ?_) (Ev.now _)
    rw [sleuthref12_firstOf.l0, if_neg (by omega)]
  | succ n ih =>
    intro i hi
    have hw : wrap64 ((i : Int) + 1) = ((i + 1 : Nat) : Int) := by rw [w64 (by omega) (by omega)]; omega
    have hm := hL _ (rd_mem i (by omega))
    rw [drop_rd L i (by omega), List.find?_cons]
    by_cases c : rd ms (rd L (i : Int)) = m
    · rw [show (rd ms (rd L (i : Int)) == m) = true from beq_iff_eq.2 c]
      refine Ev.step (f := fun _ => some (rd L (i : Int))) (fun k => ?_) (Ev.now _)
      rw [sleuthref12_firstOf.l0, if_pos (by omega), if_pos (by omega), if_pos hm.1, if_pos hm.2, if_pos c]
    · rw [show (rd ms (rd L (i : Int)) == m) = false from beq_eq_false_iff_ne.2 c]
      refine Ev.step (f := fun k => sleuthref12_firstOf.l0 k L ms m ((i + 1 : Nat) : Int)) (fun k => ?_) (ih (i + 1) (by omega))
      rw [sleuthref12_firstOf.l0, if_pos (by omega), if_pos (by omega), if_pos hm.1, if_pos hm.2, if_neg c, hw]
theorem kids_rng {ns : List Nd} {ms : List Int} (h : marksS ns ms = true) (a : Int) (h0 : 0 ≤ a) : ∀ x ∈ kidsTo ns a ns.length, 0 ≤ x ∧ x < (ms.length : Int) := fun x hx => by
  have h1 := kidsTo_rng ns a x ns.length hx
  obtain ⟨_, hl, _⟩ := marksS_spec h
  omega
theorem kids_max {ns : List Nd} {ms : List Int} (h : marksS ns ms = true) (a : Int) : (kidsTo ns a ns.length).length ≤ 9223372036854775806 := by
  obtain ⟨hm, hl, _⟩ := marksS_spec h
  have hlen := mayT_len hm
  have := kidsTo_len ns a ns.length
  omega
theorem firstOf_ev {ns : List Nd} {ms : List Int} (h : marksS ns ms = true) (a : Int) (h0 : 0 ≤ a) (m : Int) : Ev (fun k => sleuthref12_firstOf.f k (kidsTo ns a ns.length) ms m) ((fstK ns ms a m).getD (-1)) :=
  firstOf_l0 (kids_rng h a h0) (kids_max h a) m (kidsTo ns a ns.length).length 0 (by omega)
theorem verdict_l0 {L ms : List Int} (hL : ∀ x ∈ L, 0 ≤ x ∧ x < (ms.length : Int)) (hl : L.length ≤ 9223372036854775806) (a : Int) : ∀ n i : Nat, i + n = L.length → Ev (fun k => sleuthref12_verdict.l0 k ms a L (i : Int)) (if ((L.drop i).all fun k => rd ms k == 1) = true then (1, a) else (3, 0)) := by
  intro n
  induction n with
  | zero =>
    intro i hi
    rw [List.drop_eq_nil_of_le (by omega)]
    refine Ev.step (f := fun _ => some (1, a)) (fun k => ?_) (Ev.now _)
    rw [sleuthref12_verdict.l0, if_neg (by omega)]
  | succ n ih =>
    intro i hi
    have hw : wrap64 ((i : Int) + 1) = ((i + 1 : Nat) : Int) := by rw [w64 (by omega) (by omega)]; omega
    have hm := hL _ (rd_mem i (by omega))
    rw [drop_rd L i (by omega), List.all_cons]
    by_cases c : rd ms (rd L (i : Int)) = 1
    · rw [show (rd ms (rd L (i : Int)) == 1) = true from beq_iff_eq.2 c, Bool.true_and]
      refine Ev.step (f := fun k => sleuthref12_verdict.l0 k ms a L ((i + 1 : Nat) : Int)) (fun k => ?_) (ih (i + 1) (by omega))
      rw [sleuthref12_verdict.l0, if_pos (by omega), if_pos (by omega), if_pos hm.1, if_pos hm.2, if_pos c, hw]
    · rw [show (rd ms (rd L (i : Int)) == 1) = false from beq_eq_false_iff_ne.2 c, Bool.false_and]
      refine Ev.step (f := fun _ => some (3, 0)) (fun k => ?_) (Ev.now _)
      rw [sleuthref12_verdict.l0, if_pos (by omega), if_pos (by omega), if_pos hm.1, if_pos hm.2, if_neg c]
theorem verdict_ev {ns : List Nd} {ms : List Int} (h : marksS ns ms = true) (a : Int) (h0 : 0 ≤ a) : Ev (fun k => sleuthref12_verdict.f k ns ms a) (bugS ns ms a) := by
  unfold sleuthref12_verdict.f bugS
  refine Ev.bind (kidsR_ev (marksS_spec h).1 a h0) ?_
  exact verdict_l0 (kids_rng h a h0) (kids_max h a) a (kidsTo ns a ns.length).length 0 (by omega)
theorem topDown_l0 {ns : List Nd} {ms : List Int} (h : marksS ns ms = true) : ∀ (n : Nat) (a : Int), 0 ≤ a → a < (ns.length : Int) → (ns.length : Int) ≤ a + n → Ev (fun q => sleuthref12_topDown.l0 q ns ms a) (finT ns ms (downT ns ms n a)) := by
  have hm := (marksS_spec h).1
  intro n
  induction n with
  | zero => intro a h0 h1 h2; omega
  | succ n ih =>
    intro a h0 h1 h2
    refine Ev.step (f := fun k => (sleuthref12_kids.f k ns a).bind fun t347 => ((sleuthref12_firstOf.f k t347 ms 2).bind fun t350 => (if t350 < 0 then ((sleuthref12_kids.f k ns a).bind fun t351 => ((sleuthref12_firstOf.f k t351 ms 0).bind fun t354 => (if t354 ≥ 0 then (some (0, t354)) else ((sleuthref12_verdict.f k ns ms a).bind fun bt355 => (some (bt355.1, bt355.2)))))) else (sleuthref12_topDown.l0 k ns ms t350)))) (fun k => by rw [sleuthref12_topDown.l0]) ?_
    refine Ev.bind (kidsR_ev hm a h0) ?_
    refine Ev.bind (firstOf_ev h a h0 2) ?_
    rw [downT]
    cases hf : fstK ns ms a 2 with
    | some k =>
      have hk := fstK_spec hf
      have hk0 : ¬ (some k).getD (-1) < 0 := by show ¬ k < 0; omega
      simp only [if_neg hk0]
      exact ih k (by omega) hk.2.1 (by omega)
    | none =>
      have hk0 : (none : Option Int).getD (-1) < 0 := by decide
      simp only [if_pos hk0]
      refine Ev.bind (kidsR_ev hm a h0) ?_
      refine Ev.bind (firstOf_ev h a h0 0) ?_
      unfold finT
      cases hg : fstK ns ms a 0 with
      | some k =>
        have hk := fstK_spec hg
        have hk1 : (some k).getD (-1) ≥ 0 := by show k ≥ 0; omega
        simp only [if_pos hk1]
        exact Ev.now _
      | none =>
        have hk1 : ¬ (none : Option Int).getD (-1) ≥ 0 := by decide
        simp only [if_neg hk1]
        exact Ev.bind (verdict_ev h a h0) (Ev.now _)
theorem rooted_eq {ns : List Nd} {ms : List Int} (h : marksS ns ms = true) (h2 : rd ms 0 ≠ 2) : sleuthref12_rooted.f (rd ms 0) = some (askT ns ms) := by
  have hlen := mayT_len (marksS_spec h).1
  have h00 := marks_at h 0 (by omega)
  rw [show ((0 : Nat) : Int) = 0 from rfl] at h00
  unfold sleuthref12_rooted.f askT
  by_cases c0 : rd ms 0 = 0
  · rw [if_pos c0, if_pos c0]
  · rw [if_neg c0, if_neg c0]
    by_cases c1 : rd ms 0 = 1
    · rw [if_pos c1, if_pos c1]
    · rw [if_neg c1, if_neg c1, if_pos (by omega)]
theorem topDown_ev {ns : List Nd} {ms : List Int} (h : marksS ns ms = true) : Ev (fun k => sleuthref12_topDown.f k ns ms) (askT ns ms) := by
  obtain ⟨hm, hl, _⟩ := marksS_spec h
  have hlen := mayT_len hm
  unfold sleuthref12_topDown.f
  have g : (0 : Int) < (ms.length : Int) := by omega
  simp only [if_pos g]
  by_cases c2 : rd ms 0 = 2
  · have e : askT ns ms = finT ns ms (downT ns ms ns.length 0) := by
      unfold askT
      rw [if_neg (by omega), if_neg (by omega), if_neg (by omega)]
    simp only [if_pos c2]
    rw [e]
    exact topDown_l0 h ns.length 0 (by omega) (by omega) (by omega)
  · simp only [if_neg c2, rooted_eq h c2, Option.bind_some]
    exact Ev.now _
theorem dbt_stable (ns : List Nd) (ms : List Int) (w n : Nat) (j : Nat) (hj : j < n) : ∀ m : Nat, n ≤ m → rdOf false (dbt ns ms w m) (j : Int) = rdOf false (dbt ns ms w n) (j : Int) := by
  intro m
  induction m with
  | zero => intro h; omega
  | succ m ih =>
    intro h
    rcases Nat.lt_or_ge m n with c | c
    · obtain rfl : n = m + 1 := by omega
      rfl
    · rw [← ih c, dbt]
      split
      · rfl
      · rw [rdOf_set, if_neg (by omega)]
theorem dbt_dsc {ns : List Nd} (hm : mayT ns = true) (ms : List Int) (w : Nat) : ∀ n j : Nat, j < n → rdOf false (dbt ns ms w ns.length) (j : Int) = true → dsc (ps ns) w j = true := by
  have hpar := par_of hm
  intro n
  induction n with
  | zero => intro j h; omega
  | succ n ih =>
    intro j hj hd
    obtain ⟨h1, h2, _, h4⟩ := dbt_spec hm ms w ns.length (Nat.le_refl _) j hd
    have hp := mayT_pa hm j h2
    rw [dsc_step hpar w (by rw [ps_len]; exact h2) (by omega), ps_at ns j h2, Bool.or_eq_true]
    refine .inr ?_
    rcases h4 with h4 | h4
    · rw [h4, Int.toNat_natCast]; exact dsc_self w
    · refine ih _ (by omega) ?_
      rw [show (((pa ns j).toNat : Nat) : Int) = pa ns j by omega]
      exact h4.2
theorem oneB_range (d : List Bool) (ms : List Int) (i : Int) : 0 ≤ oneB d ms i ∧ oneB d ms i ≤ 1 := by
  unfold oneB
  split <;> omega
theorem oneB_low {ns : List Nd} (hm : mayT ns = true) (ms : List Int) (w : Nat) (j : Nat) (h : j ≤ w) : openB (dbt ns ms w ns.length) ms (j : Int) = false := by
  unfold openB
  cases c : rdOf false (dbt ns ms w ns.length) (j : Int) with
  | false => rfl
  | true =>
    have := dbt_spec hm ms w ns.length (Nat.le_refl _) j c
    omega
def oneN (ns : List Nd) (ms : List Int) (w : Nat) (j : Nat) : Int := oneB (dbt ns ms w ns.length) ms (j : Int)
theorem oneN_sum (ns : List Nd) (ms : List Int) (w : Nat) (n : Nat) : 0 ≤ sumTo (oneN ns ms w) n ∧ sumTo (oneN ns ms w) n ≤ (n : Int) := by
  refine ⟨sumTo_nonneg (fun j _ => (oneB_range _ _ _).1), ?_⟩
  have := sumTo_le (f := oneN ns ms w) (g := fun _ => 1) (n := n) (fun j _ => (oneB_range _ _ _).2)
  rw [sumTo_const] at this
  exact this
theorem half_total {ns : List Nd} {ms : List Int} (h : marksS ns ms = true) (w : Nat) (hw : w < ns.length) : rd (szH ns (dbt ns ms w ns.length) ms) (w : Int) = sumTo (oneN ns ms w) ns.length := by
  obtain ⟨hm, hl, _⟩ := marksS_spec h
  have hlen := mayT_len hm
  have hs := oneN_sum ns ms w ns.length
  have := sizesP_gen hm (oneB (dbt ns ms w ns.length) ms) (fun j => (oneB_range _ _ _).1) (by show sumTo (oneN ns ms w) ns.length ≤ _; omega) w hw
  show rd (sizesP ns _) _ = _
  rw [this]
  refine sumTo_congr (fun j hj => ?_)
  by_cases c : openB (dbt ns ms w ns.length) ms (j : Int) = true
  · have c' := c
    unfold openB at c'
    rw [Bool.and_eq_true] at c'
    rw [if_pos (dbt_dsc hm ms w (j + 1) j (by omega) c'.1)]
    rfl
  · have e : oneB (dbt ns ms w ns.length) ms (j : Int) = 0 := by unfold oneB; rw [if_neg c]
    unfold oneN
    rw [e]
    split <;> rfl
/-- the document's weights and their number, up to place n -/
def wtL (ns : List Nd) (ms : List Int) (w : Nat) : Nat → List Int
  | 0 => List.replicate ns.length 0
  | n + 1 => if openB (dbt ns ms w ns.length) ms (n : Int) = true then (wtL ns ms w n).set n 1 else wtL ns ms w n
theorem wtL_len (ns : List Nd) (ms : List Int) (w : Nat) : ∀ n : Nat, (wtL ns ms w n).length = ns.length
  | 0 => List.length_replicate
  | n + 1 => by
    rw [wtL]
    split
    · rw [List.length_set]; exact wtL_len ns ms w n
    · exact wtL_len ns ms w n
theorem rd_setN (l : List Int) (i j : Nat) (v : Int) (h : i < l.length) : rd (l.set i v) (j : Int) = if j = i then v else rd l (j : Int) := by
  show List.getD _ _ _ = if _ then _ else List.getD _ _ _
  rw [Int.toNat_natCast]
  exact getD_set h
theorem rd_rep (n j : Nat) : rd (List.replicate n 0) (j : Int) = 0 := by
  show List.getD _ _ _ = _
  rw [Int.toNat_natCast]
  exact rep_zero n j
theorem wtL_at (ns : List Nd) (ms : List Int) (w : Nat) (j : Nat) : ∀ n : Nat, n ≤ ns.length → rd (wtL ns ms w n) (j : Int) = if j < n then oneN ns ms w j else 0
  | 0, _ => by rw [wtL, rd_rep, if_neg (by omega)]
  | n + 1, hn => by
    have ih := wtL_at ns ms w j n (by omega)
    rw [wtL]
    by_cases c : openB (dbt ns ms w ns.length) ms (n : Int) = true
    · rw [if_pos c, rd_setN _ _ _ _ (by rw [wtL_len]; omega), ih]
      by_cases e : j = n
      · rw [if_pos e, if_pos (by omega), e]
        unfold oneN oneB
        rw [if_pos c]
      · rw [if_neg e]
        by_cases e2 : j < n
        · rw [if_pos e2, if_pos (by omega)]
        · rw [if_neg e2, if_neg (by omega)]
    · rw [if_neg c, ih]
      by_cases e : j = n
      · rw [if_neg (by omega), if_pos (by omega), e]
        unfold oneN oneB
        rw [if_neg c]
      · by_cases e2 : j < n
        · rw [if_pos e2, if_pos (by omega)]
        · rw [if_neg e2, if_neg (by omega)]
theorem wtL_low {ns : List Nd} (hm : mayT ns = true) (ms : List Int) (w : Nat) : ∀ n : Nat, n ≤ w + 1 → wtL ns ms w n = List.replicate ns.length 0
  | 0, _ => rfl
  | n + 1, h => by rw [wtL, oneB_low hm ms w n (by omega), if_neg Bool.false_ne_true]; exact wtL_low hm ms w n (by omega)
theorem oneN_low {ns : List Nd} (hm : mayT ns = true) (ms : List Int) (w : Nat) (j : Nat) (h : j ≤ w) : oneN ns ms w j = 0 := by
  unfold oneN oneB
  rw [oneB_low hm ms w j h, if_neg Bool.false_ne_true]
theorem halves_l1 {ns : List Nd} {ms : List Int} (h : marksS ns ms = true) (w : Nat) (hw : w < ns.length) (R : Int × Int)
    (hR : Ev (fun k => sleuthref12_byHalves.l2 k ns ms (w : Int) (dbt ns ms w ns.length) (wtL ns ms w ns.length) (sumTo (oneN ns ms w) ns.length) ((ns.length : Int) - 1)) R) :
    ∀ n i : Nat, w < i → i + n = ns.length → Ev (fun k => sleuthref12_byHalves.l1 k ns ms (w : Int) (dbt ns ms w i) (wtL ns ms w i) (sumTo (oneN ns ms w) i) (i : Int)) R := by
  obtain ⟨hm, hl, _⟩ := marksS_spec h
  have hlen := mayT_len hm
  intro n
  induction n with
  | zero =>
    intro i hwi hi
    obtain rfl : i = ns.length := by omega
    refine Ev.step (fun k => ?_) hR
    have e : wrap64 ((ns.length : Int) - 1) = (ns.length : Int) - 1 := w64 (by omega) (by omega)
    rw [sleuthref12_byHalves.l1, if_neg (by omega), e]
  | succ n ih =>
    intro i hwi hi
    have hp := mayT_pa hm i (by omega)
    have hw1 : wrap64 ((i : Int) + 1) = ((i + 1 : Nat) : Int) := by rw [w64 (by omega) (by omega)]; omega
    have hdl := dbt_len ns ms w i
    have hwl := wtL_len ns ms w i
    have hp' : (rd_T66 ns (i : Int)).f1 = pa ns i := rfl
    have hsum := oneN_sum ns ms w i
    have hw2 : wrap64 (sumTo (oneN ns ms w) i + 1) = sumTo (oneN ns ms w) i + 1 := w64 (by omega) (by omega)
    have hst := dbt_stable ns ms w (i + 1) i (by omega) ns.length (by omega)
    have key : ∀ k, (if rdOf false (dbt ns ms w (i + 1)) (i : Int) = true then (if rd ms (i : Int) = 0 then sleuthref12_byHalves.l1 k ns ms (w : Int) (dbt ns ms w (i + 1)) ((wtL ns ms w i).set i 1) (sumTo (oneN ns ms w) i + 1) ((i + 1 : Nat) : Int) else sleuthref12_byHalves.l1 k ns ms (w : Int) (dbt ns ms w (i + 1)) (wtL ns ms w i) (sumTo (oneN ns ms w) i) ((i + 1 : Nat) : Int)) else sleuthref12_byHalves.l1 k ns ms (w : Int) (dbt ns ms w (i + 1)) (wtL ns ms w i) (sumTo (oneN ns ms w) i) ((i + 1 : Nat) : Int))
        = sleuthref12_byHalves.l1 k ns ms (w : Int) (dbt ns ms w (i + 1)) (wtL ns ms w (i + 1)) (sumTo (oneN ns ms w) (i + 1)) ((i + 1 : Nat) : Int) := by
      intro k
      rw [wtL, sumTo]
      have hone : oneN ns ms w i = if openB (dbt ns ms w ns.length) ms (i : Int) = true then 1 else 0 := rfl
      rw [hone]
      have hop : openB (dbt ns ms w ns.length) ms (i : Int) = (rdOf false (dbt ns ms w (i + 1)) (i : Int) && (rd ms (i : Int) == 0)) := by unfold openB; rw [hst]
      rw [hop]
      cases rdOf false (dbt ns ms w (i + 1)) (i : Int) with
      | false => rw [if_neg Bool.false_ne_true, Bool.false_and, if_neg Bool.false_ne_true, if_neg Bool.false_ne_true, Int.add_zero]
      | true =>
        rw [if_pos rfl, Bool.true_and]
        by_cases c : rd ms (i : Int) = 0
        · rw [if_pos c, if_pos (beq_iff_eq.2 c), if_pos (beq_iff_eq.2 c)]
        · rw [if_neg c, if_neg (by rw [beq_iff_eq]; exact c), if_neg (by rw [beq_iff_eq]; exact c), Int.add_zero]
    refine Ev.step (f := fun k => sleuthref12_byHalves.l1 k ns ms (w : Int) (dbt ns ms w (i + 1)) (wtL ns ms w (i + 1)) (sumTo (oneN ns ms w) (i + 1)) ((i + 1 : Nat) : Int)) (fun k => ?_) (ih (i + 1) (by omega) (by omega))
    rw [← key k]
    have hd : dbt ns ms w (i + 1) = (dbt ns ms w i).set i ((decide (pa ns i = (w : Int)) || rdOf false (dbt ns ms w i) (pa ns i)) && (rd ms (i : Int) != 1)) := by rw [dbt, if_neg (show ¬ i ≤ w by omega)]
    rw [sleuthref12_byHalves.l1, if_pos (by omega), if_pos (by omega), hw1, hw2, hp', Int.toNat_natCast]
    by_cases c : pa ns i = (w : Int)
    · rw [decide_eq_true c, Bool.true_or, Bool.true_and] at hd
      rw [if_pos c, if_pos (by omega), if_pos (by omega), ← hd, Option.bind_some, if_pos (show (i : Int) < ((wtL ns ms w i).length : Int) by omega)]
    · rw [decide_eq_false c, Bool.false_or] at hd
      rw [if_neg c, if_pos (by omega), if_pos (by omega)]
      cases hb : rdOf false (dbt ns ms w i) (pa ns i) with
      | true =>
        rw [hb, Bool.true_and] at hd
        rw [if_pos rfl, if_pos (by omega), if_pos (by omega), ← hd, Option.bind_some, if_pos (show (i : Int) < ((wtL ns ms w i).length : Int) by omega)]
      | false =>
        rw [hb, Bool.false_and] at hd
        rw [if_neg Bool.false_ne_true, if_pos (by omega), ← hd, Option.bind_some]
        have e : rdOf false (dbt ns ms w (i + 1)) (i : Int) = false := by rw [hd, rdOf_set, if_pos ⟨rfl, by omega⟩]
        rw [e, if_neg Bool.false_ne_true, if_neg Bool.false_ne_true]
end Go.Proofs.YtbnljapgnfmmoaaGreatDoor.G
end
section
/- The document's answer by halves is the program's. -/
namespace Go.Proofs.YtbnljapgnfmmoaaGreatDoor.G
open Go.RowKit Go.Proofs.YtbnljapgnfmmoaaGreatDoorW.PrintWords Go.Proofs.YtbnljapgnfmmoaaGreatDoorW.PrintLast Go.Proofs.YtbnljapgnfmmoaaGreatDoorW.PrintMore
set_option linter.unusedVariables false
set_option linter.unusedSimpArgs false
theorem rd_ne (l : List Int) (i j : Nat) (v : Int) (h : j ≠ i) : rd (l.set i v) (j : Int) = rd l (j : Int) := by
  show List.getD _ _ _ = List.getD _ _ _
  rw [Int.toNat_natCast, List.getD_eq_getElem?_getD, List.getD_eq_getElem?_getD, List.getElem?_set, if_neg (fun e => h e.symm)]
theorem sizesL_high {ns : List Nd} (hm : mayT ns = true) (c : Int → Int) (j : Nat) : ∀ (n : Nat) (o : List Int), n ≤ j → n ≤ ns.length → rd (sizesL ns c n o) (j : Int) = rd o (j : Int)
  | 0, o, _, _ => rfl
  | n + 1, o, h, hn => by
    rw [sizesL]
    have hp := mayT_pa hm n (by omega)
    have hp' : (rn ns (n : Int)).f1 = pa ns n := rfl
    rw [sizesL_high hm c j n _ (by omega) (by omega), hp']
    by_cases c0 : 0 < n
    · rw [if_pos c0, rd_ne _ _ _ _ (by omega), rd_ne _ _ _ _ (by omega)]
    · rw [if_neg c0, rd_ne _ _ _ _ (by omega)]
theorem halves_l2 {ns : List Nd} {ms : List Int} (h : marksS ns ms = true) (w : Nat) (hw : w < ns.length) (R : Int × Int) (M : Int)
    (hR : ∀ wt : List Int, wt.length = ns.length → (∀ j : Nat, w < j → j < ns.length → rd wt (j : Int) = rd (szH ns (dbt ns ms w ns.length) ms) (j : Int)) → Ev (fun k => sleuthref12_byHalves.l3 k ns ms (w : Int) (dbt ns ms w ns.length) wt M (-1) 0 ((w + 1 : Nat) : Int)) R) :
    ∀ n : Nat, w < n → n ≤ ns.length → ∀ o wt : List Int, o.length = ns.length → wt.length = ns.length → (∀ j : Nat, j < n → 0 ≤ rd o (j : Int)) → sumTo (fun j => rd o (j : Int) + oneN ns ms w j) n ≤ 512 →
      (∀ j : Nat, w < j → j < ns.length → rd wt (j : Int) = if j < n then rd o (j : Int) + oneN ns ms w j else rd o (j : Int)) → (∀ j : Nat, w < j → j < n → rdOf false (dbt ns ms w ns.length) (j : Int) = false → rd o (j : Int) = 0) →
      sizesL ns (oneB (dbt ns ms w ns.length) ms) n o = szH ns (dbt ns ms w ns.length) ms →
      Ev (fun k => sleuthref12_byHalves.l2 k ns ms (w : Int) (dbt ns ms w ns.length) wt M ((n : Int) - 1)) R := by
  obtain ⟨hm, hl, _⟩ := marksS_spec h
  have hlen := mayT_len hm
  have hdl := dbt_len ns ms w ns.length
  intro n
  induction n with
  | zero => intro hn; omega
  | succ m ih =>
    intro hwm hmN o wt ho hwt h0 hs hrel hnd hsz
    have e1 : ((m + 1 : Nat) : Int) - 1 = (m : Int) := by omega
    rw [e1]
    by_cases c : m = w
    · subst c
      have e2 : wrap64 ((m : Int) + 1) = ((m + 1 : Nat) : Int) := by rw [w64 (by omega) (by omega)]; omega
      refine Ev.step (fun k => ?_) (hR wt hwt (fun j hj hjN => ?_))
      · rw [sleuthref12_byHalves.l2, if_neg (by omega), e2]
      · rw [hrel j hj hjN, if_neg (by omega), ← hsz, sizesL_high hm _ j (m + 1) o (by omega) (by omega)]
    · have hp := mayT_pa hm m (by omega)
      obtain ⟨p, hpp⟩ : ∃ p : Nat, pa ns m = (p : Int) := ⟨(pa ns m).toNat, by omega⟩
      have hpm : p < m := by omega
      have hp' : (rn ns (m : Int)).f1 = (p : Int) := hpp
      rw [sumTo] at hs
      have hc0 : ∀ j : Nat, 0 ≤ oneN ns ms w j ∧ oneN ns ms w j ≤ 1 := fun j => oneB_range _ _ _
      have hm0 := h0 m (by omega)
      have hcm := hc0 m
      have hsum0 := sumTo_nonneg (f := fun j => rd o (j : Int) + oneN ns ms w j) (n := m) (fun j hj => by have := h0 j (by omega); have := hc0 j; omega)
      have hq1 := sumTo_mem (f := fun j => rd o (j : Int) + oneN ns ms w j) (i := p) (n := m) (fun j hj => by have := h0 j (by omega); have := hc0 j; omega) hpm
      have hp0 := h0 p (by omega)
      have hcp := hc0 p
      have hone : oneB (dbt ns ms w ns.length) ms (m : Int) = oneN ns ms w m := rfl
      have hv : wrap64 (rd o (m : Int) + oneN ns ms w m) = rd o (m : Int) + oneN ns ms w m := w64 (by omega) (by omega)
      obtain ⟨v, hvv⟩ : ∃ v, rd o (m : Int) + oneN ns ms w m = v := ⟨_, rfl⟩
      have hv0 : 0 ≤ v := by omega
      have g1m : rd (o.set m v) (m : Int) = v := by rw [rd_setN _ _ _ _ (by omega), if_pos rfl]
      have g1p : rd (o.set m v) (p : Int) = rd o (p : Int) := rd_ne _ _ _ _ (by omega)
      have hvp : wrap64 (rd o (p : Int) + v) = rd o (p : Int) + v := w64 (by omega) (by omega)
      have g2 : ∀ j : Nat, rd ((o.set m v).set p (rd o (p : Int) + v)) (j : Int) = if j = p then rd o (p : Int) + v else if j = m then v else rd o (j : Int) := by
        intro j
        rw [rd_setN _ _ _ _ (by rw [List.length_set]; omega)]
        by_cases c1 : j = p
        · rw [if_pos c1, if_pos c1]
        · rw [if_neg c1, if_neg c1, rd_setN _ _ _ _ (by omega)]
      have hnext : sizesL ns (oneB (dbt ns ms w ns.length) ms) m ((o.set m v).set p (rd o (p : Int) + v)) = szH ns (dbt ns ms w ns.length) ms := by
        rw [sizesL] at hsz
        rw [hone, hv, hvv, if_pos (by omega), hp', Int.toNat_natCast, g1m, g1p, hvp] at hsz
        exact hsz
      have hw2 : wrap64 ((m : Int) - 1) = (m : Int) - 1 := w64 (by omega) (by omega)
      have hwm1 : rd wt (m : Int) = v := by rw [hrel m (by omega) (by omega), if_pos (by omega), hvv]
      have hs2 : sumTo (fun j => rd ((o.set m v).set p (rd o (p : Int) + v)) (j : Int) + oneN ns ms w j) m = sumTo (fun j => rd o (j : Int) + oneN ns ms w j) m + v :=
        sumTo_one hpm (fun j hj => by
          rw [g2]
          by_cases c1 : j = p
          · rw [if_pos c1, if_pos c1, c1]; omega
          · rw [if_neg c1, if_neg c1, if_neg (by omega)])
      have hn2 : ∀ j : Nat, j < m → 0 ≤ rd ((o.set m v).set p (rd o (p : Int) + v)) (j : Int) := fun j hj => by
        rw [g2]
        have := h0 j (by omega)
        split
        · omega
        · rw [if_neg (by omega)]; exact this
      have hz : rdOf false (dbt ns ms w ns.length) (m : Int) = false → v = 0 := fun hd => by
        have h1 := hnd m (by omega) (by omega) hd
        have h2 : oneN ns ms w m = 0 := by
          unfold oneN oneB openB
          rw [hd, Bool.false_and, if_neg Bool.false_ne_true]
        omega
      have hd2 : ∀ j : Nat, w < j → j < m → rdOf false (dbt ns ms w ns.length) (j : Int) = false → rd ((o.set m v).set p (rd o (p : Int) + v)) (j : Int) = 0 := fun j hj hjm hd => by
        rw [g2]
        by_cases c1 : j = p
        · rw [if_pos c1]
          subst c1
          have h1 := hnd j hj (by omega) hd
          have h2 : rdOf false (dbt ns ms w ns.length) (m : Int) = false := by
            cases hq : rdOf false (dbt ns ms w ns.length) (m : Int) with
            | false => rfl
            | true =>
              obtain ⟨_, _, _, q4⟩ := dbt_spec hm ms w ns.length (Nat.le_refl _) m hq
              rw [hpp] at q4
              rcases q4 with q4 | q4
              · omega
              · rw [hd] at q4; exact absurd q4.2 Bool.false_ne_true
          rw [h1, hz h2]; rfl
        · rw [if_neg c1, if_neg (by omega)]
          exact hnd j hj (by omega) hd
      by_cases cd : rdOf false (dbt ns ms w ns.length) (m : Int) = true ∧ (p : Int) > (w : Int)
      · have hwp1 : rd wt (p : Int) = rd o (p : Int) + oneN ns ms w p := by rw [hrel p (by omega) (by omega), if_pos (by omega)]
        have hw3 : wrap64 (rd o (p : Int) + oneN ns ms w p + v) = rd o (p : Int) + oneN ns ms w p + v := w64 (by omega) (by omega)
        refine Ev.step (f := fun k => sleuthref12_byHalves.l2 k ns ms (w : Int) (dbt ns ms w ns.length) (wt.set p (rd o (p : Int) + oneN ns ms w p + v)) M ((m : Int) - 1)) (fun k => ?_)
          (ih (by omega) (by omega) _ _ (by rw [List.length_set, List.length_set]; exact ho) (by rw [List.length_set]; exact hwt) hn2 (by rw [hs2]; omega) (fun j hj hjN => ?_) hd2 hnext)
        · have hp2 : (rd_T66 ns (m : Int)).f1 = (p : Int) := hpp
          rw [sleuthref12_byHalves.l2, if_pos (by omega), if_pos (by omega), if_pos (by omega), if_pos cd.1, if_pos (by omega), hp2, if_pos cd.2, if_pos (by omega), if_pos (by omega), if_pos (by omega), hwp1, hwm1, hw3, hw2, Int.toNat_natCast]
        · rw [rd_setN _ _ _ _ (by omega), g2]
          by_cases c1 : j = p
          · rw [if_pos c1, if_pos (by omega), if_pos c1, c1]; omega
          · rw [if_neg c1, if_neg c1, hrel j hj hjN]
            by_cases c2 : j = m
            · rw [if_pos (by omega), if_neg (by omega), if_pos c2, c2, hvv]
            · rw [if_neg c2]
              by_cases c3 : j < m
              · rw [if_pos (by omega), if_pos c3]
              · rw [if_neg (by omega), if_neg c3]
      · refine Ev.step (f := fun k => sleuthref12_byHalves.l2 k ns ms (w : Int) (dbt ns ms w ns.length) wt M ((m : Int) - 1)) (fun k => ?_)
          (ih (by omega) (by omega) _ _ (by rw [List.length_set, List.length_set]; exact ho) hwt hn2 (by rw [hs2]; omega) (fun j hj hjN => ?_) hd2 hnext)
        · have hp2 : (rd_T66 ns (m : Int)).f1 = (p : Int) := hpp
          rw [sleuthref12_byHalves.l2, if_pos (by omega), if_pos (by omega), if_pos (by omega)]
          cases hq : rdOf false (dbt ns ms w ns.length) (m : Int) with
          | false => rw [if_neg Bool.false_ne_true, hw2]
          | true => rw [if_pos rfl, if_pos (by omega), hp2, if_neg (fun hh => cd ⟨hq, hh⟩), hw2]
        · rw [g2, hrel j hj hjN]
          by_cases c1 : j = p
          · have h2 : rdOf false (dbt ns ms w ns.length) (m : Int) = false := by
              cases hq : rdOf false (dbt ns ms w ns.length) (m : Int) with
              | false => rfl
              | true => exact absurd ⟨hq, by omega⟩ cd
            rw [if_pos (by omega), if_pos (by omega), if_pos c1, hz h2, c1]; omega
          · rw [if_neg c1]
            by_cases c2 : j = m
            · rw [if_pos (by omega), if_neg (by omega), if_pos c2, c2, hvv]
            · rw [if_neg c2]
              by_cases c3 : j < m
              · rw [if_pos (by omega), if_pos c3]
              · rw [if_neg (by omega), if_neg c3]
theorem bestH_low {ns : List Nd} (hm : mayT ns = true) (ms sz : List Int) (M : Int) (w : Nat) : ∀ n : Nat, n ≤ w + 1 → bestH sz (dbt ns ms w ns.length) ms M n = -1
  | 0, _ => rfl
  | n + 1, h => by
    rw [bestH, if_neg (fun hh => by rw [oneB_low hm ms w n (by omega)] at hh; exact absurd hh.1 Bool.false_ne_true)]
    exact bestH_low hm ms sz M w n (by omega)
def offO (sz : List Int) (b M : Int) : Int := if b < 0 then 0 else offW (rd sz b) M
theorem halves_l3 {ns : List Nd} {ms : List Int} (h : marksS ns ms = true) (w : Nat) (hw : w < ns.length) (sz wt : List Int) (M : Int) (hwl : wt.length = ns.length) (hwt : ∀ j : Nat, w < j → j < ns.length → rd wt (j : Int) = rd sz (j : Int)) :
    ∀ n i : Nat, w < i → i + n = ns.length → Ev (fun k => sleuthref12_byHalves.l3 k ns ms (w : Int) (dbt ns ms w ns.length) wt M (bestH sz (dbt ns ms w ns.length) ms M i) (offO sz (bestH sz (dbt ns ms w ns.length) ms M i) M) (i : Int))
      (if bestH sz (dbt ns ms w ns.length) ms M ns.length < 0 then bugS ns ms (w : Int) else (0, bestH sz (dbt ns ms w ns.length) ms M ns.length)) := by
  obtain ⟨hm, hl, _⟩ := marksS_spec h
  have hlen := mayT_len hm
  have hdl := dbt_len ns ms w ns.length
  intro n
  induction n with
  | zero =>
    intro i hwi hi
    obtain rfl : i = ns.length := by omega
    generalize bestH sz (dbt ns ms w ns.length) ms M ns.length = b
    by_cases cb : b < 0
    · rw [if_pos cb]
      refine Ev.step (f := fun k => (sleuthref12_verdict.f k ns ms (w : Int)).bind fun bt392 => (some (bt392.1, bt392.2))) (fun k => ?_) (Ev.bind (verdict_ev h (w : Int) (by omega)) (Ev.now _))
      rw [sleuthref12_byHalves.l3, if_neg (by omega), if_neg (by omega)]
    · rw [if_neg cb]
      refine Ev.step (f := fun k => some (0, b)) (fun k => ?_) (Ev.now _)
      rw [sleuthref12_byHalves.l3, if_neg (by omega), if_pos (by omega)]
  | succ n ih =>
    intro i hwi hi
    have hw1 : wrap64 ((i : Int) + 1) = ((i + 1 : Nat) : Int) := by rw [w64 (by omega) (by omega)]; omega
    have ih' := ih (i + 1) (by omega) (by omega)
    have hwi2 := hwt i hwi (by omega)
    have hb : bestH sz (dbt ns ms w ns.length) ms M (i + 1) = if openB (dbt ns ms w ns.length) ms (i : Int) = true ∧ (bestH sz (dbt ns ms w ns.length) ms M i < 0 ∨ offW (rd sz (i : Int)) M < offW (rd sz (bestH sz (dbt ns ms w ns.length) ms M i)) M) then (i : Int) else bestH sz (dbt ns ms w ns.length) ms M i := rfl
    rw [hb] at ih'
    clear hb
    generalize bestH sz (dbt ns ms w ns.length) ms M i = b at ih' ⊢
    generalize (if bestH sz (dbt ns ms w ns.length) ms M ns.length < 0 then bugS ns ms (w : Int) else (0, bestH sz (dbt ns ms w ns.length) ms M ns.length)) = R at ih' ⊢
    by_cases co : openB (dbt ns ms w ns.length) ms (i : Int) = true
    · have co' := co
      unfold openB at co'
      rw [Bool.and_eq_true, beq_iff_eq] at co'
      have hz : (rd ms (i : Int) != 0) = false := by rw [co'.2]; rfl
      refine Ev.step (f := fun k => sleuthref12_byHalves.j4 k ns ms (w : Int) (dbt ns ms w ns.length) wt M b (offO sz b M) (i : Int) false) (fun k => ?_) ?_
      · rw [sleuthref12_byHalves.l3, if_pos (by omega), if_pos (by omega), if_pos (by omega), if_pos co'.1, if_pos (by omega), hz]
      · refine Ev.step (fun k => ?_) ih'
        have hoff : mx (wrap64 ((wrap64 (2 * (rd wt (i : Int)))) - M)) (wrap64 (M - (wrap64 (2 * (rd wt (i : Int)))))) = offW (rd sz (i : Int)) M := by rw [hwi2]; rfl
        rw [sleuthref12_byHalves.j4, if_neg Bool.false_ne_true, if_pos (by omega), if_pos (by omega), hoff, hw1]
        by_cases cb : b < 0
        · rw [if_pos cb, if_pos ⟨co, .inl cb⟩]
          unfold offO
          rw [if_neg (show ¬ (i : Int) < 0 by omega)]
        · rw [if_neg cb]
          have ho : offO sz b M = offW (rd sz b) M := by unfold offO; rw [if_neg cb]
          rw [ho]
          by_cases cl : offW (rd sz (i : Int)) M < offW (rd sz b) M
          · rw [if_pos cl, if_pos ⟨co, .inr cl⟩]
            unfold offO
            rw [if_neg (show ¬ (i : Int) < 0 by omega)]
          · rw [if_neg cl, if_neg (fun hh => hh.2.elim cb cl), ho]
    · rw [if_neg (fun hh => co hh.1)] at ih'
      have co' : ¬ (rdOf false (dbt ns ms w ns.length) (i : Int) = true ∧ rd ms (i : Int) = 0) := fun hh => co (by unfold openB; rw [hh.1, hh.2]; rfl)
      refine Ev.step (f := fun k => sleuthref12_byHalves.j4 k ns ms (w : Int) (dbt ns ms w ns.length) wt M b (offO sz b M) (i : Int) true) (fun k => ?_) (Ev.step (fun k => ?_) ih')
      · rw [sleuthref12_byHalves.l3, if_pos (by omega), if_pos (by omega), if_pos (by omega)]
        cases hq : rdOf false (dbt ns ms w ns.length) (i : Int) with
        | false => rw [if_neg Bool.false_ne_true]
        | true => rw [if_pos rfl, if_pos (by omega), show (rd ms (i : Int) != 0) = true from bne_iff_ne.2 (fun hh => co' ⟨hq, hh⟩)]
      · rw [sleuthref12_byHalves.j4, if_pos rfl, hw1]
theorem halves_l0 {ns : List Nd} {ms : List Int} (h : marksS ns ms = true) (R : Int × Int)
    (hR : Ev (fun k => sleuthref12_byHalves.l1 k ns ms (lastM ms ms.length) (List.replicate ns.length false) (List.replicate ns.length 0) 0 (wrap64 (lastM ms ms.length + 1))) R) :
    ∀ n i : Nat, i + n = ns.length → Ev (fun k => sleuthref12_byHalves.l0 k ns ms (lastM ms i) (i : Int)) R := by
  obtain ⟨hm, hl, _⟩ := marksS_spec h
  have hlen := mayT_len hm
  intro n
  induction n with
  | zero =>
    intro i hi
    obtain rfl : i = ms.length := by omega
    refine Ev.step (fun k => ?_) hR
    rw [sleuthref12_byHalves.l0, if_neg (by omega), if_pos (by omega), Int.toNat_natCast, if_pos (by omega), if_pos (by omega)]
  | succ n ih =>
    intro i hi
    have hw1 : wrap64 ((i : Int) + 1) = ((i + 1 : Nat) : Int) := by rw [w64 (by omega) (by omega)]; omega
    refine Ev.step (fun k => ?_) (ih (i + 1) (by omega))
    rw [sleuthref12_byHalves.l0, if_pos (by omega), if_pos (by omega), if_pos (by omega), hw1, lastM]
    by_cases c : rd ms (i : Int) = 2
    · rw [if_pos c, if_pos c]
    · rw [if_neg c, if_neg c]
theorem byHalves_ev {ns : List Nd} {ms : List Int} (h : marksS ns ms = true) : Ev (fun k => sleuthref12_byHalves.f k ns ms) (askH ns ms) := by
  obtain ⟨hm, hl, _⟩ := marksS_spec h
  have hlen := mayT_len hm
  unfold sleuthref12_byHalves.f
  have g : (0 : Int) < (ms.length : Int) := by omega
  simp only [if_pos g]
  by_cases c2 : rd ms 0 = 2
  · simp only [if_pos c2]
    have hr := lastM_range ms ms.length (by omega)
    obtain ⟨w, hwe⟩ : ∃ w : Nat, lastM ms ms.length = (w : Int) := ⟨(lastM ms ms.length).toNat, by omega⟩
    have hw : w < ns.length := by omega
    have e : askH ns ms = if bestH (szH ns (dbt ns ms w ns.length) ms) (dbt ns ms w ns.length) ms (sumTo (oneN ns ms w) ns.length) ns.length < 0 then bugS ns ms (w : Int) else (0, bestH (szH ns (dbt ns ms w ns.length) ms) (dbt ns ms w ns.length) ms (sumTo (oneN ns ms w) ns.length) ns.length) := by
      unfold askH
      rw [if_pos c2, hwe, Int.toNat_natCast, half_total h w hw]
    rw [e]
    refine halves_l0 h _ ?_ ns.length 0 (by omega)
    have e2 : wrap64 ((w : Int) + 1) = ((w + 1 : Nat) : Int) := by rw [w64 (by omega) (by omega)]; omega
    rw [hwe, e2]
    have hz : sumTo (oneN ns ms w) (w + 1) = 0 := sumTo_zero (fun j hj => oneN_low hm ms w j (by omega))
    have h2 : Ev (fun k => sleuthref12_byHalves.l2 k ns ms (w : Int) (dbt ns ms w ns.length) (wtL ns ms w ns.length) (sumTo (oneN ns ms w) ns.length) ((ns.length : Int) - 1))
        (if bestH (szH ns (dbt ns ms w ns.length) ms) (dbt ns ms w ns.length) ms (sumTo (oneN ns ms w) ns.length) ns.length < 0 then bugS ns ms (w : Int) else (0, bestH (szH ns (dbt ns ms w ns.length) ms) (dbt ns ms w ns.length) ms (sumTo (oneN ns ms w) ns.length) ns.length)) := by
      have hs := oneN_sum ns ms w ns.length
      refine halves_l2 h w hw _ _ (fun wt hwl hwt => ?_) ns.length hw (Nat.le_refl _) (List.replicate ns.length 0) (wtL ns ms w ns.length) List.length_replicate (wtL_len ns ms w ns.length) (fun j hj => by rw [rd_rep]; exact Int.le_refl _) ?_ (fun j hj hjN => ?_) (fun j _ _ _ => rd_rep _ _) rfl
      · have h3 := halves_l3 h w hw (szH ns (dbt ns ms w ns.length) ms) wt (sumTo (oneN ns ms w) ns.length) hwl hwt (ns.length - (w + 1)) (w + 1) (by omega) (by omega)
        rw [bestH_low hm ms _ _ w (w + 1) (Nat.le_refl _)] at h3
        exact h3
      · have e3 : sumTo (fun j => rd (List.replicate ns.length 0) (j : Int) + oneN ns ms w j) ns.length = sumTo (oneN ns ms w) ns.length := sumTo_congr (fun j hj => by rw [rd_rep, Int.zero_add])
        rw [e3]; omega
      · rw [wtL_at ns ms w j ns.length (Nat.le_refl _), if_pos hjN, if_pos hjN, rd_rep, Int.zero_add]
    have h1 := halves_l1 h w hw _ h2 (ns.length - (w + 1)) (w + 1) (by omega) (by omega)
    rw [dbt_low ns ms w (w + 1) (Nat.le_refl _), wtL_low hm ms w (w + 1) (Nat.le_refl _), hz] at h1
    exact h1
  · simp only [if_neg c2, rooted_eq h c2, Option.bind_some]
    have e : askH ns ms = askT ns ms := by unfold askH; rw [if_neg c2]
    rw [e]
    exact Ev.now _
end Go.Proofs.YtbnljapgnfmmoaaGreatDoor.G
end
section
/- A session by its fields, as the cards open it. -/
namespace Go.Proofs.YtbnljapgnfmmoaaGreatDoor.G
open Go.RowKit Go.Proofs.YtbnljapgnfmmoaaGreatDoorW.PrintWords Go.Proofs.YtbnljapgnfmmoaaGreatDoorW.PrintLast Go.Proofs.YtbnljapgnfmmoaaGreatDoorW.PrintMore
end Go.Proofs.YtbnljapgnfmmoaaGreatDoor.G
end
section
-- Laid by the session's own driver gp.py over the kit's printer. Not trusted: Lean checks it.
namespace Go.Proofs.YtbnljapgnfmmoaaGreatDoor.G
open Go.RowKit Go.Proofs.YtbnljapgnfmmoaaGreatDoorW.PrintWords Go.Proofs.YtbnljapgnfmmoaaGreatDoorW.PrintLast Go.Proofs.YtbnljapgnfmmoaaGreatDoorW.PrintMore
set_option maxHeartbeats 8000000
set_option maxRecDepth 100000
attribute [local go_sem] max2_int min2_int max_two min_two max_three min_three max_four min_four   -- for this text's walks alone
set_option linter.unusedVariables false
set_option linter.unusedSimpArgs false

def sleuthref12_asks.f (k : Nat) (l0 : List (S66)) (a1 : Int) (l2 : List Int) : Option (Int × Int) := if a1 = 0 then ((sleuthref12_topDown.f k l0 l2).bind fun bt408 => (some (bt408.1, bt408.2))) else ((sleuthref12_byHalves.f k l0 l2).bind fun bt410 => (some (bt410.1, bt410.2)))
theorem sleuthref12_asks.mono : ∀ a0 a1 a2 k, LeO (sleuthref12_asks.f k a0 a1 a2) (sleuthref12_asks.f (k + 1) a0 a1 a2) := by
 intro a0 a1 a2 k
 unfold sleuthref12_asks.f
 repeat' first
  | (with_reducible exact sleuthref12_byHalves.mono _ _ _)
  | (with_reducible exact sleuthref12_topDown.mono _ _ _)
  | (with_reducible exact LeO.refl _)
  | (with_reducible exact LeO.none _)
  | (with_reducible refine LeO.ite ?_ ?_)
  | (with_reducible refine LeO.bind ?_ (fun _ => ?_))
  | exact sleuthref12_byHalves.mono _ _ _
  | exact sleuthref12_topDown.mono _ _ _
  | exact LeO.none _
  | refine LeO.ite ?_ ?_
  | refine LeO.bind ?_ (fun _ => ?_)
theorem sleuthref12_asks.calls (k : Nat) (A0 : Option Addr) (c0 : Nat) (l0 : List (S66)) (a1 : Int) (A2 : Option Addr) (c2 : Nat) (l2 : List Int) (r1 : Int) (r2 : Int) (w : World) (hr0 : Kd.C k66 w A0 l0.length l0) (hc0 : l0.length ≤ c0) (hr2 : Kd.C (Kd.int .i64) w A2 l2.length l2) (hc2 : l2.length ≤ c2) (h : sleuthref12_asks.f k l0 a1 l2 = some (r1, r2)) :
 Calls Tryz.prog 33 #[.slice A0 l0.length c0, .int .i64 a1, .slice A2 l2.length c2] w fun e w' => e = .returned (.agg #[.int .i64 r1, .int .i64 r2]) ∧ Below w.heap.size w w' := by
 have hu49 := Tryz.underlying49
 have HR0 := a_ hr0
 have HC0 := a_ hc0
 clear hr0 hc0
 have HR2 := a_ hr2
 have HC2 := a_ hc2
 clear hr2 hc2
 have HB := a_ (Below.refl w.heap.size w)
 have H := h; unfold sleuthref12_asks.f at H
 clear h
 by_cases c4 : a1 = 0
 case neg =>
  rw [if_neg c4] at H
  have c4b0 : (a1 == 0) = false := beq_eq_false_iff_ne.mpr c4
  have c4b1 : (a1 != 0) = true := bne_iff_ne.mpr c4
  replace H := Option.bind_eq_some_iff.mp H
  obtain ⟨⟨t410, t411⟩, A90, H⟩ := H
  try dsimp only at H
  have A9 := a_ A90
  clear A90
  simp only [Option.some.injEq, Prod.mk.injEq] at H
  obtain ⟨rfl, rfl⟩ := H
  go_enter Tryz.func33, Tryz.ntmps33
  go_wp2_with (first | ((with_reducible refine gate_dst (N := 6) rfl ?_); refine boxE_ 6 #[.int .i64 0, .int .i64 0] 49 ?_; intro gb407 hg w10 hbox hb; have BK407 := a_ (hbox); have GW407 := a_ ((gE_ hg : w.heap.size ≤ gb407)); have GE407 := a_ ((gE_ hg : w.heap.size ≤ gb407)); replace HB := a_ (below_step hB_ hb); clear hb hbox hg) | ((with_reducible refine gate_callee (f := 47) rfl ?_); refine goesL_ (some 14) rfl rfl Tryz.func47 (by kernel_rfl) rfl #[.slice A0 l0.length c0, .slice A2 l2.length c2] rfl hL_ ?_; (with_reducible refine (sleuthref12_byHalves.calls k _ _ l0 _ _ l2 t410 t411 _ ?side1 ?side2 ?side3 ?side4 A9.out).mono ?_); (case side1 => exact cB_ HR0.out); (case side2 => exact HC0.out); (case side3 => exact cB_ HR2.out); (case side4 => exact HC2.out); rintro e w11 ⟨rfl, hb⟩; refine ⟨_, rfl, ?_⟩; replace BK407 := a_ (bB_ BK407.out hb); replace HB := a_ (below_step hC_ hb); (try clear hb); (try clear hb2); (try clear hk); (try clear hi); obtain ⟨hcz12_0, hcz12_1, hfz12_0, hfz12_1⟩ := bx2_ BK407.out))
  refine bodyPost_ret (results_cell_row rfl _ _ gb407 49 #[.int .i64 t410, .int .i64 t411] (0, 0) _ rfl (bP_ (bP_ (hK_ BK407.out))) Tryz.underlying49 rfl (by kernel_rfl)) rfl ?_
  exact ⟨hV_, hC_⟩

 rw [if_pos c4] at H
 have c4b0 : (a1 == 0) = true := beq_iff_eq.mpr c4
 have c4b1 : (a1 != 0) = false := bne_eq_false_iff_eq.mpr c4
 clear c4
 replace H := Option.bind_eq_some_iff.mp H
 obtain ⟨⟨t408, t409⟩, A50, H⟩ := H
 try dsimp only at H
 have A5 := a_ A50
 clear A50
 simp only [Option.some.injEq, Prod.mk.injEq] at H
 obtain ⟨rfl, rfl⟩ := H
 go_enter Tryz.func33, Tryz.ntmps33
 go_wp2_with (first | ((with_reducible refine gate_dst (N := 6) rfl ?_); refine boxE_ 6 #[.int .i64 0, .int .i64 0] 49 ?_; intro gb407 hg w6 hbox hb; have BK407 := a_ (hbox); have GW407 := a_ ((gE_ hg : w.heap.size ≤ gb407)); have GE407 := a_ ((gE_ hg : w.heap.size ≤ gb407)); replace HB := a_ (below_step hB_ hb); clear hb hbox hg) | ((with_reducible refine gate_callee (f := 46) rfl ?_); refine goesL_ (some 11) rfl rfl Tryz.func46 (by kernel_rfl) rfl #[.slice A0 l0.length c0, .slice A2 l2.length c2] rfl hL_ ?_; (with_reducible refine (sleuthref12_topDown.calls k _ _ l0 _ _ l2 t408 t409 _ ?side1 ?side2 ?side3 ?side4 A5.out).mono ?_); (case side1 => exact cB_ HR0.out); (case side2 => exact HC0.out); (case side3 => exact cB_ HR2.out); (case side4 => exact HC2.out); rintro e w7 ⟨rfl, hb⟩; refine ⟨_, rfl, ?_⟩; replace BK407 := a_ (bB_ BK407.out hb); replace HB := a_ (below_step hC_ hb); (try clear hb); (try clear hb2); (try clear hk); (try clear hi); obtain ⟨hcz8_0, hcz8_1, hfz8_0, hfz8_1⟩ := bx2_ BK407.out))
 refine bodyPost_ret (results_cell_row rfl _ _ gb407 49 #[.int .i64 t408, .int .i64 t409] (0, 0) _ rfl (bP_ (bP_ (hK_ BK407.out))) Tryz.underlying49 rfl (by kernel_rfl)) rfl ?_
 exact ⟨hV_, hC_⟩
end Go.Proofs.YtbnljapgnfmmoaaGreatDoor.G
end
section
-- Laid by the session's own driver gp.py over the kit's printer. Not trusted: Lean checks it.
namespace Go.Proofs.YtbnljapgnfmmoaaGreatDoor.G
open Go.RowKit Go.Proofs.YtbnljapgnfmmoaaGreatDoorW.PrintWords Go.Proofs.YtbnljapgnfmmoaaGreatDoorW.PrintLast Go.Proofs.YtbnljapgnfmmoaaGreatDoorW.PrintMore
attribute [local go_sem] max2_int min2_int max_two min_two max_three min_three max_four min_four   -- for this text's walks alone
set_option linter.unusedVariables false
set_option linter.unusedSimpArgs false

end Go.Proofs.YtbnljapgnfmmoaaGreatDoor.G
end
section
-- Laid by the session's own driver gp.py over the kit's printer. Not trusted: Lean checks it.
namespace Go.Proofs.YtbnljapgnfmmoaaGreatDoor.G
open Go.RowKit Go.Proofs.YtbnljapgnfmmoaaGreatDoorW.PrintWords Go.Proofs.YtbnljapgnfmmoaaGreatDoorW.PrintLast Go.Proofs.YtbnljapgnfmmoaaGreatDoorW.PrintMore
attribute [local go_sem] max2_int min2_int max_two min_two max_three min_three max_four min_four   -- for this text's walks alone
set_option linter.unusedVariables false
set_option linter.unusedSimpArgs false

end Go.Proofs.YtbnljapgnfmmoaaGreatDoor.G
end
section
/- What package next answers, and the document's answer, as plain functions. -/
namespace Go.Proofs.YtbnljapgnfmmoaaGreatDoor.G
open Go.RowKit Go.Proofs.YtbnljapgnfmmoaaGreatDoorW.PrintWords Go.Proofs.YtbnljapgnfmmoaaGreatDoorW.PrintLast Go.Proofs.YtbnljapgnfmmoaaGreatDoorW.PrintMore
set_option linter.unusedVariables false
set_option linter.unusedSimpArgs false
abbrev An := S53
abbrev ra (zs : List An) (i : Int) : An := rd_T53 zs i
def fineA (l : List An) : Prop := l.length * 16 ≤ 140737488351232 ∧ ∀ x ∈ l, (Lit.int .i64 x.f0).wf = true ∧ (Lit.int .i64 x.f1).wf = true
theorem drop_ra (l : List An) (i : Nat) (h : i < l.length) : l.drop i = ra l (i : Int) :: l.drop (i + 1) := by
  rw [List.drop_eq_getElem_cons h]
  congr 1
  show _ = List.getD _ _ _
  rw [Int.toNat_natCast, List.getD_eq_getElem?_getD, List.getElem?_eq_getElem h]; rfl
def markB (x : Int) : Bool := decide (1 ≤ x) && decide (x ≤ 3)
theorem markB_spec {x : Int} (h : markB x = true) : 1 ≤ x ∧ x ≤ 3 := by
  unfold markB at h
  rw [Bool.and_eq_true, decide_eq_true_iff, decide_eq_true_iff] at h
  exact h
theorem mark_eq (x : Int) : next_Mark.f x = some (markB x) := by
  unfold next_Mark.f markB
  by_cases c : 1 ≤ x
  · rw [if_pos (show x ≥ 1 from c), decide_eq_true c, Bool.true_and]
  · rw [if_neg (show ¬ x ≥ 1 from c), decide_eq_false c, Bool.false_and]
theorem markMay_eq (x : Int) : sleuthref12_markMay.f x = some (markB x) := by
  unfold sleuthref12_markMay.f
  rw [upTo_eq]; rfl
def wayB (x : Int) : Bool := x == 0 || x == 1
theorem way_eq (x : Int) : next_Way.f x = some (wayB x) := by
  unfold next_Way.f wayB
  by_cases c : x = 0
  · rw [if_pos c, beq_iff_eq.2 c]; rfl
  · rw [if_neg c, beq_eq_false_iff_ne.2 c]; rfl
theorem wayR_eq (x : Int) : sleuthref12_upTo.f x 0 1 = some (wayB x) := by
  rw [upTo_eq]
  unfold wayB
  congr 1
  rw [Bool.eq_iff_iff, Bool.and_eq_true, Bool.or_eq_true, decide_eq_true_iff, decide_eq_true_iff, beq_iff_eq, beq_iff_eq]
  omega
theorem wayB_spec {x : Int} (h : wayB x = true) : x = 0 ∨ x = 1 := by
  unfold wayB at h
  rw [Bool.or_eq_true, beq_iff_eq, beq_iff_eq] at h
  exact h
/-- the marks that answers leave -/
def goA : List An → List Int → Option (List Int)
  | [], m => some m
  | a :: zs, m => if (decide (0 ≤ a.f0) && decide (a.f0 < (m.length : Int))) && markB a.f1 then goA zs (m.set a.f0.toNat a.f1) else none
def resA (o : Option (List Int)) : List Int × Int := match o with | some m => (m, 0) | none => ([], 2000)
theorem marks_l0 (zs : List An) (hl : zs.length ≤ 9223372036854775806) : ∀ (n i : Nat) (m : List Int), i + n = zs.length → Ev (fun k => next_Marks.l0 k m zs (zs.length : Int) (i : Int)) (resA (goA (zs.drop i) m)) := by
  intro n
  induction n with
  | zero =>
    intro i m hi
    rw [List.drop_eq_nil_of_le (by omega)]
    refine Ev.step (f := fun _ => some (m, 0)) (fun k => ?_) (Ev.now _)
    rw [next_Marks.l0, if_neg (by omega)]
  | succ n ih =>
    intro i m hi
    have hw : wrap64 ((i : Int) + 1) = ((i + 1 : Nat) : Int) := by rw [w64 (by omega) (by omega)]; omega
    rw [drop_ra zs i (by omega), goA]
    obtain ⟨a, ha⟩ : ∃ a, ra zs (i : Int) = a := ⟨_, rfl⟩
    have ha' : rd_T53 zs (i : Int) = a := ha
    rw [ha]
    by_cases c0 : 0 ≤ a.f0
    · by_cases c1 : a.f0 < (m.length : Int)
      · rw [decide_eq_true c0, decide_eq_true c1, Bool.and_self, Bool.true_and]
        by_cases c2 : markB a.f1 = true
        · rw [if_pos c2]
          refine Ev.step (f := fun k => next_Marks.l0 k (m.set a.f0.toNat a.f1) zs (zs.length : Int) ((i + 1 : Nat) : Int)) (fun k => ?_) (ih (i + 1) _ (by omega))
          rw [next_Marks.l0, if_pos (by omega), if_pos (by omega), if_pos (by omega), ha', if_neg (by omega), if_neg (by omega), mark_eq, Option.bind_some, if_pos c2, if_pos c0, if_pos c1, hw]
        · rw [if_neg c2]
          refine Ev.step (f := fun _ => some ([], 2000)) (fun k => ?_) (Ev.now _)
          rw [next_Marks.l0, if_pos (by omega), if_pos (by omega), if_pos (by omega), ha', if_neg (by omega), if_neg (by omega), mark_eq, Option.bind_some, if_neg c2]
      · rw [decide_eq_false c1, Bool.and_false, Bool.false_and, if_neg Bool.false_ne_true]
        refine Ev.step (f := fun _ => some ([], 2000)) (fun k => ?_) (Ev.now _)
        rw [next_Marks.l0, if_pos (by omega), if_pos (by omega), if_pos (by omega), ha', if_neg (by omega), if_pos (by omega)]
    · rw [decide_eq_false c0, Bool.false_and, Bool.false_and, if_neg Bool.false_ne_true]
      refine Ev.step (f := fun _ => some ([], 2000)) (fun k => ?_) (Ev.now _)
      rw [next_Marks.l0, if_pos (by omega), if_pos (by omega), if_pos (by omega), ha', if_pos (by omega)]
def marksF (ns : List Nd) (zs : List An) : List Int × Int := if (mayT ns && decide (zs.length ≤ 512)) = true then resA (goA zs (List.replicate ns.length 0)) else ([], 2000)
theorem marks_ev (ns : List Nd) (w : Int) (zs : List An) : Ev (fun k => next_Marks.f k ns w zs) (marksF ns zs) := by
  unfold next_Marks.f marksF
  refine Ev.bind (trailMay_ev ns) ?_
  cases hm : mayT ns with
  | false =>
    simp only [if_neg Bool.false_ne_true, Bool.false_and]
    refine Ev.step (f := fun _ => some ([], 2000)) (fun k => ?_) (Ev.now _)
    rw [next_Marks.j0, if_pos rfl]
  | true =>
    have hlen := mayT_len hm
    simp only [if_pos, Bool.true_and]
    by_cases c : zs.length ≤ 512
    · rw [decide_eq_false (show ¬ (zs.length : Int) > 512 by omega), if_pos (decide_eq_true c)]
      have h := marks_l0 zs (by omega) zs.length 0 (List.replicate ns.length 0) (by omega)
      refine Ev.step (fun k => ?_) h
      rw [next_Marks.j0, if_neg Bool.false_ne_true, if_pos (by omega), Int.toNat_natCast, if_pos (by omega)]; rfl
    · rw [decide_eq_true (show (zs.length : Int) > 512 by omega), if_neg (by rw [decide_eq_true_iff]; exact c)]
      refine Ev.step (f := fun _ => some ([], 2000)) (fun k => ?_) (Ev.now _)
      rw [next_Marks.j0, if_pos rfl]
theorem goA_ok : ∀ (zs : List An) (m m' : List Int), goA zs m = some m' → m'.length = m.length ∧ ((∀ x ∈ m, oddB x = false) → ∀ x ∈ m', oddB x = false)
  | [], m, m', h => by
    obtain rfl := Option.some.inj h
    exact ⟨rfl, fun hh => hh⟩
  | a :: zs, m, m', h => by
    rw [goA] at h
    by_cases c : ((decide (0 ≤ a.f0) && decide (a.f0 < (m.length : Int))) && markB a.f1) = true
    · rw [if_pos c] at h
      rw [Bool.and_eq_true] at c
      have hb := markB_spec c.2
      obtain ⟨h1, h2⟩ := goA_ok zs _ m' h
      rw [List.length_set] at h1
      refine ⟨h1, fun hh => h2 fun x hx => ?_⟩
      rcases List.mem_or_eq_of_mem_set hx with hx | rfl
      · exact hh x hx
      · unfold oddB
        rw [decide_eq_false (by omega), decide_eq_false (by omega)]; rfl
    · rw [if_neg c] at h; cases h
theorem marksF_ok {ns : List Nd} {zs : List An} (h : (marksF ns zs).2 = 0) : marksS ns (marksF ns zs).1 = true ∧ zs.length ≤ 512 ∧ goA zs (List.replicate ns.length 0) = some (marksF ns zs).1 := by
  unfold marksF at h ⊢
  by_cases c : (mayT ns && decide (zs.length ≤ 512)) = true
  · rw [if_pos c] at h ⊢
    rw [Bool.and_eq_true, decide_eq_true_iff] at c
    cases hg : goA zs (List.replicate ns.length 0) with
    | none => rw [hg] at h; exact absurd h (by decide)
    | some m =>
      obtain ⟨h1, h2⟩ := goA_ok zs _ m hg
      rw [List.length_replicate] at h1
      refine ⟨?_, c.2, rfl⟩
      show marksS ns m = true
      unfold marksS
      rw [c.1, h1, decide_eq_true rfl, Bool.true_and, Bool.true_and, Bool.not_eq_true']
      rw [List.any_eq_false]
      intro x hx
      rw [h2 (fun y hy => by rw [List.eq_of_mem_replicate hy]; rfl) x hx]
      exact Bool.false_ne_true
  · rw [if_neg c] at h; exact absurd h (by decide)
def askW (w : Int) (ns : List Nd) (ms : List Int) : Int × Int := if w = 1 then askH ns ms else askT ns ms
theorem nextAsk_ev {ns : List Nd} {ms : List Int} (h : marksS ns ms = true) (w : Int) : Ev (fun k => next_Ask.f k w ns ms) (askW w ns ms) := by
  unfold next_Ask.f askW
  by_cases c : w = 1
  · simp only [if_pos c]; exact Ev.bind (askH_ev h) (Ev.now _)
  · simp only [if_neg c]; exact Ev.bind (ask_ev h) (Ev.now _)
theorem asksR_ev {ns : List Nd} {ms : List Int} (h : marksS ns ms = true) (w : Int) (hw : wayB w = true) : Ev (fun k => sleuthref12_asks.f k ns w ms) (askW w ns ms) := by
  unfold sleuthref12_asks.f askW
  rcases wayB_spec hw with rfl | rfl
  · rw [if_neg (show ¬ (0 : Int) = 1 by decide)]
    have e : (0 : Int) = 0 := rfl
    simp only [if_pos e]; exact Ev.bind (topDown_ev h) (Ev.now _)
  · rw [if_pos rfl]
    have e : ¬ (1 : Int) = 0 := by decide
    simp only [if_neg e]; exact Ev.bind (byHalves_ev h) (Ev.now _)
def stepF (ns : List Nd) (w : Int) (zs : List An) : Int × Int × Int := if (marksF ns zs).2 = 0 then (if wayB w = true then ((askW w ns (marksF ns zs).1).1, (askW w ns (marksF ns zs).1).2, 0) else (0, 0, 2000)) else (0, 0, 2000)
theorem step_ev (ns : List Nd) (w : Int) (zs : List An) : Ev (fun k => next_Step.f k ns w zs) (stepF ns w zs) := by
  unfold next_Step.f stepF
  refine Ev.bind (marks_ev ns w zs) ?_
  by_cases c : (marksF ns zs).2 = 0
  · simp only [if_pos c, way_eq, Option.bind_some]
    by_cases d : wayB w = true
    · simp only [if_pos d]; exact Ev.bind (nextAsk_ev (marksF_ok c).1 w) (Ev.now _)
    · simp only [if_neg d]; exact Ev.now _
  · simp only [if_neg c]; exact Ev.now _
theorem askT_facts {ns : List Nd} {ms : List Int} (h : marksS ns ms = true) : 0 ≤ (askT ns ms).2 ∧ (askT ns ms).2 < (ns.length : Int) ∧ ((askT ns ms).1 = 0 → rd ms (askT ns ms).2 = 0) := by
  obtain ⟨hm, hl, hx⟩ := marksS_spec h
  have hlen := mayT_len hm
  unfold askT
  by_cases c0 : rd ms 0 = 0
  · rw [if_pos c0]; exact ⟨Int.le_refl _, by show (0 : Int) < _; omega, fun _ => c0⟩
  · rw [if_neg c0]
    by_cases c1 : rd ms 0 = 1
    · rw [if_pos c1]; exact ⟨Int.le_refl _, by show (0 : Int) < _; omega, fun hh => absurd hh (by decide)⟩
    · rw [if_neg c1]
      by_cases c3 : rd ms 0 = 3
      · rw [if_pos c3]; exact ⟨Int.le_refl _, by show (0 : Int) < _; omega, fun hh => absurd hh (by decide)⟩
      · rw [if_neg c3]
        have h00 := marks_at h 0 (by omega)
        rw [show ((0 : Nat) : Int) = 0 from rfl] at h00
        have hd := downT_spec (ns := ns) (ms := ms) ns.length 0 (by omega) (by omega) (by omega) (by omega)
        generalize downT ns ms ns.length 0 = b at hd
        unfold finT
        cases hf : fstK ns ms b 0 with
        | some k =>
          have hk := fstK_spec hf
          exact ⟨by show 0 ≤ k; omega, hk.2.1, fun _ => hk.2.2.2⟩
        | none =>
          unfold bugS
          simp only []
          split
          · exact ⟨hd.1, hd.2.1, fun hh => absurd hh (show ¬ (1 : Int) = 0 by decide)⟩
          · exact ⟨Int.le_refl _, by show (0 : Int) < _; omega, fun hh => absurd hh (by decide)⟩
theorem askH_facts {ns : List Nd} {ms : List Int} (h : marksS ns ms = true) : 0 ≤ (askH ns ms).2 ∧ (askH ns ms).2 < (ns.length : Int) ∧ ((askH ns ms).1 = 0 → rd ms (askH ns ms).2 = 0) := by
  obtain ⟨hm, hl, hx⟩ := marksS_spec h
  have hlen := mayT_len hm
  unfold askH
  by_cases c2 : rd ms 0 = 2
  · rw [if_pos c2]
    have hr := lastM_range ms ms.length (by omega)
    generalize lastM ms ms.length = w at hr
    have hbr := bestH_range (szH ns (dbt ns ms w.toNat ns.length) ms) (dbt ns ms w.toNat ns.length) ms (rd (szH ns (dbt ns ms w.toNat ns.length) ms) w) ns.length
    have hbs := bestH_spec (szH ns (dbt ns ms w.toNat ns.length) ms) (dbt ns ms w.toNat ns.length) ms (rd (szH ns (dbt ns ms w.toNat ns.length) ms) w) ns.length
    generalize bestH (szH ns (dbt ns ms w.toNat ns.length) ms) (dbt ns ms w.toNat ns.length) ms (rd (szH ns (dbt ns ms w.toNat ns.length) ms) w) ns.length = b at hbr hbs
    by_cases cb : b < 0
    · rw [if_pos cb]
      unfold bugS
      split
      · exact ⟨hr.1, by show w < _; omega, fun hh => absurd hh (show ¬ (1 : Int) = 0 by decide)⟩
      · exact ⟨Int.le_refl _, by show (0 : Int) < _; omega, fun hh => absurd hh (by decide)⟩
    · rw [if_neg cb]
      have h1 := hbs (by omega)
      unfold openB at h1
      rw [Bool.and_eq_true, beq_iff_eq] at h1
      exact ⟨by show 0 ≤ b; omega, hbr.2, fun _ => h1.2⟩
  · rw [if_neg c2]; exact askT_facts h
theorem askW_facts {ns : List Nd} {ms : List Int} (h : marksS ns ms = true) (w : Int) : 0 ≤ (askW w ns ms).2 ∧ (askW w ns ms).2 < (ns.length : Int) ∧ ((askW w ns ms).1 = 0 → rd ms (askW w ns ms).2 = 0) := by
  unfold askW
  split
  · exact askH_facts h
  · exact askT_facts h
theorem sameAnswers_l0 (a : List An) (ha : a.length ≤ 9223372036854775806) : ∀ (n i : Nat), i + n = a.length → Ev (fun k => sleuthlaw0_SameAnswers.l0 k a a (i : Int)) true := by
  intro n
  induction n with
  | zero =>
    intro i hi
    refine Ev.step (f := fun _ => some true) (fun k => ?_) (Ev.now _)
    rw [sleuthlaw0_SameAnswers.l0, if_neg (by omega)]
  | succ n ih =>
    intro i hi
    have hw : wrap64 ((i : Int) + 1) = ((i + 1 : Nat) : Int) := by rw [w64 (by omega) (by omega)]; omega
    refine Ev.step (f := fun k => sleuthlaw0_SameAnswers.l0 k a a ((i + 1 : Nat) : Int)) (fun k => ?_) (ih (i + 1) (by omega))
    rw [sleuthlaw0_SameAnswers.l0, if_pos (by omega), if_pos (by omega), if_pos (by omega), hw]
    simp only [BEq.rfl, Bool.not_true, Bool.or_self, if_neg Bool.false_ne_true]
theorem sameAnswers_ev (a : List An) (ha : a.length ≤ 9223372036854775806) : Ev (fun k => sleuthlaw0_SameAnswers.f k a a) true := by
  unfold sleuthlaw0_SameAnswers.f
  simp only [if_pos]
  exact sameAnswers_l0 a ha a.length 0 (by omega)
theorem sameSession_ev (ns : List Nd) (hok : okN ns) (w : Int) (zs : List An) (hz : zs.length ≤ 9223372036854775806) : Ev (fun k => sleuthlaw0_SameSession.f k ns w zs ns w zs) true := by
  unfold sleuthlaw0_SameSession.f
  refine Ev.bind (sameNodes_ev ns hok) ?_
  simp only [if_pos]
  exact Ev.bind (sameAnswers_ev zs hz) (Ev.now _)
end Go.Proofs.YtbnljapgnfmmoaaGreatDoor.G
end
section
-- Laid by the session's own driver gp.py over the kit's printer. Not trusted: Lean checks it.
namespace Go.Proofs.YtbnljapgnfmmoaaGreatDoor.G
open Go.RowKit Go.Proofs.YtbnljapgnfmmoaaGreatDoorW.PrintWords Go.Proofs.YtbnljapgnfmmoaaGreatDoorW.PrintLast Go.Proofs.YtbnljapgnfmmoaaGreatDoorW.PrintMore
set_option maxHeartbeats 8000000
set_option maxRecDepth 100000
attribute [local go_sem] max2_int min2_int max_two min_two max_three min_three max_four min_four   -- for this text's walks alone
set_option linter.unusedVariables false
set_option linter.unusedSimpArgs false

mutual
def sleuthref12_SessionMay.j0 : Nat → Bool → List (S66) → Int → List (S53) → Option (Bool)
 | 0, _, _, _, _ => none
 | k + 1, x22, x413000, x413001, x413002 => if x22 = true then (some false) else (if 0 ≤ (x413000.length : Int) then (if ((x413000.length : Int) : Int).toNat ≤ 35184372088832 then (sleuthref12_SessionMay.l0 k (List.replicate ((x413000.length : Int) : Int).toNat 0) 0 x413000 x413001 x413002) else (none)) else (none))
def sleuthref12_SessionMay.l0 : Nat → List Int → Int → List (S66) → Int → List (S53) → Option (Bool)
 | 0, _, _, _, _, _ => none
 | k + 1, x3, x4, x413000, x413001, x413002 => if x4 < (x413002.length : Int) then (if 0 ≤ x4 then ((sleuthref12_asks.f k x413000 x413001 x3).bind fun bt420 => (if bt420.1 = 0 then (if bt420.2 = ((rd_T53 x413002 x4).f0) then ((sleuthref12_markMay.f ((rd_T53 x413002 x4).f1)).bind fun t423 => (if t423 = true then (if 0 ≤ ((rd_T53 x413002 x4).f0) then (if ((rd_T53 x413002 x4).f0) < (x3.length : Int) then (sleuthref12_SessionMay.l0 k (x3.set (((rd_T53 x413002 x4).f0) : Int).toNat ((rd_T53 x413002 x4).f1)) (wrap64 (x4 + 1)) x413000 x413001 x413002) else (none)) else (none)) else (some false))) else (some false)) else (some false))) else (none)) else (some true)
end
def sleuthref12_SessionMay.f (k : Nat) (l0_0 : List (S66)) (a0_1 : Int) (l0_2 : List (S53)) : Option (Bool) := (sleuthref12_TrailMay.f k l0_0).bind fun t413 => (if t413 = true then ((sleuthref12_upTo.f a0_1 0 1).bind fun t414 => (if t414 = true then (sleuthref12_SessionMay.j0 k (decide ((l0_2.length : Int) > 512)) l0_0 a0_1 l0_2) else (sleuthref12_SessionMay.j0 k true l0_0 a0_1 l0_2))) else (sleuthref12_SessionMay.j0 k true l0_0 a0_1 l0_2))
theorem sleuthref12_SessionMay.mono_l : ∀ k, (∀ y0 y1 y2 y3, LeO (sleuthref12_SessionMay.j0 k y0 y1 y2 y3) (sleuthref12_SessionMay.j0 (k + 1) y0 y1 y2 y3)) ∧ (∀ y0 y1 y2 y3 y4, LeO (sleuthref12_SessionMay.l0 k y0 y1 y2 y3 y4) (sleuthref12_SessionMay.l0 (k + 1) y0 y1 y2 y3 y4))
 | 0 => ⟨fun _ _ _ _ r h => by simp [sleuthref12_SessionMay.j0] at h, fun _ _ _ _ _ r h => by simp [sleuthref12_SessionMay.l0] at h⟩
 | k + 1 => by
  obtain ⟨ih0, ih1⟩ := sleuthref12_SessionMay.mono_l k
  refine ⟨?_, ?_⟩
  · intro y0 y1 y2 y3
    unfold sleuthref12_SessionMay.j0
    repeat' first
    | (with_reducible exact ih0 _ _ _ _)
    | (with_reducible exact ih1 _ _ _ _ _)
    | (with_reducible exact sleuthref12_TrailMay.mono _ _)
    | (with_reducible exact sleuthref12_asks.mono _ _ _ _)
    | (with_reducible exact LeO.refl _)
    | (with_reducible exact LeO.none _)
    | (with_reducible refine LeO.ite ?_ ?_)
    | (with_reducible refine LeO.bind ?_ (fun _ => ?_))
    | exact ih0 _ _ _ _
    | exact ih1 _ _ _ _ _
    | exact sleuthref12_TrailMay.mono _ _
    | exact sleuthref12_asks.mono _ _ _ _
    | exact LeO.none _
    | refine LeO.ite ?_ ?_
    | refine LeO.bind ?_ (fun _ => ?_)
  · intro y0 y1 y2 y3 y4
    unfold sleuthref12_SessionMay.l0
    repeat' first
    | (with_reducible exact ih0 _ _ _ _)
    | (with_reducible exact ih1 _ _ _ _ _)
    | (with_reducible exact sleuthref12_TrailMay.mono _ _)
    | (with_reducible exact sleuthref12_asks.mono _ _ _ _)
    | (with_reducible exact LeO.refl _)
    | (with_reducible exact LeO.none _)
    | (with_reducible refine LeO.ite ?_ ?_)
    | (with_reducible refine LeO.bind ?_ (fun _ => ?_))
    | exact ih0 _ _ _ _
    | exact ih1 _ _ _ _ _
    | exact sleuthref12_TrailMay.mono _ _
    | exact sleuthref12_asks.mono _ _ _ _
    | exact LeO.none _
    | refine LeO.ite ?_ ?_
    | refine LeO.bind ?_ (fun _ => ?_)
theorem sleuthref12_SessionMay.mono : ∀ a0 a1 a2 k, LeO (sleuthref12_SessionMay.f k a0 a1 a2) (sleuthref12_SessionMay.f (k + 1) a0 a1 a2) := by
 intro a0 a1 a2 k
 obtain ⟨ih0, ih1⟩ := sleuthref12_SessionMay.mono_l k
 unfold sleuthref12_SessionMay.f
 repeat' first
  | (with_reducible exact ih0 _ _ _ _)
  | (with_reducible exact ih1 _ _ _ _ _)
  | (with_reducible exact sleuthref12_TrailMay.mono _ _)
  | (with_reducible exact sleuthref12_asks.mono _ _ _ _)
  | (with_reducible exact LeO.refl _)
  | (with_reducible exact LeO.none _)
  | (with_reducible refine LeO.ite ?_ ?_)
  | (with_reducible refine LeO.bind ?_ (fun _ => ?_))
  | exact ih0 _ _ _ _
  | exact ih1 _ _ _ _ _
  | exact sleuthref12_TrailMay.mono _ _
  | exact sleuthref12_asks.mono _ _ _ _
  | exact LeO.none _
  | refine LeO.ite ?_ ?_
  | refine LeO.bind ?_ (fun _ => ?_)
theorem sleuthref12_SessionMay.calls (k : Nat) (A0_0 : Option Addr) (c0_0 : Nat) (l0_0 : List (S66)) (a0_1 : Int) (A0_2 : Option Addr) (c0_2 : Nat) (l0_2 : List (S53)) (r : Bool) (w : World) (hr0_0 : Kd.C k66 w A0_0 l0_0.length l0_0) (hc0_0 : l0_0.length ≤ c0_0) (hr0_2 : Kd.C k53 w A0_2 l0_2.length l0_2) (hc0_2 : l0_2.length ≤ c0_2) (h : sleuthref12_SessionMay.f k l0_0 a0_1 l0_2 = some r) :
 Calls Tryz.prog 16 #[.agg #[.slice A0_0 l0_0.length c0_0, .int .i64 a0_1, .slice A0_2 l0_2.length c0_2]] w fun e w' => e = .returned (.bool r) ∧ Below w.heap.size w w' := by
 have hu25 := Tryz.underlying25
 have hu53 := Tryz.underlying53
 have hu49 := Tryz.underlying49
 have HR0_0 := a_ hr0_0
 have HC0_0 := a_ hc0_0
 clear hr0_0 hc0_0
 have HR0_2 := a_ hr0_2
 have HC0_2 := a_ hc0_2
 clear hr0_2 hc0_2
 have HB := a_ (Below.refl w.heap.size w)
 have H := h; unfold sleuthref12_SessionMay.f at H
 clear h
 have HC2 := a_ H
 clear H
 go_enter Tryz.func16, Tryz.ntmps16
 go_upto_region 1 with (first | ((with_reducible refine gate_dst (N := 1) rfl ?_); (try (refine gate_guard (by rfl) ?_; dsimp only)); refine boxE_ 1 #[.slice A0_0 l0_0.length c0_0, .int .i64 a0_1, .slice A0_2 l0_2.length c0_2] 25 ?_; intro gb412 hg w3 hbox hb; have BK412 := a_ (hbox); have GW412 := a_ ((gE_ hg : w.heap.size ≤ gb412)); have GE412 := a_ ((gE_ hg : w.heap.size ≤ gb412)); replace HB := a_ (below_step hB_ hb); clear hb hbox hg))
 (try simp only [Act.put, List.setIfInBounds_toArray, List.set_cons_zero, List.set_cons_succ])
 go_cut [22] (fun v22 wc => ∃ (kq : Nat) (x22_1 : Bool), v22 = .bool x22_1 ∧ Aside0 (sleuthref12_SessionMay.j0 kq x22_1 l0_0 a0_1 l0_2 = some r) ∧ Aside0 (kq ≤ k) ∧ Aside0 (wc.heap[gb412]? = some (.cells #[(.slice A0_0 l0_0.length c0_0), .int .i64 a0_1, (.slice A0_2 l0_2.length c0_2)] 25 (0, 0))) ∧ Aside0 (Below w.heap.size w wc))
 case first =>
  have H := HC2.out
  clear HC2
  replace H := Option.bind_eq_some_iff.mp H
  obtain ⟨t413, A40, H⟩ := H
  try dsimp only at H
  have A4 := a_ A40
  clear A40
  by_cases c5 : t413 = true
  case neg =>
   replace c5 := Bool.eq_false_iff.mpr c5
   subst c5
   rw [if_neg (show ¬ (false = true) by decide)] at H
   have H' := a_ H
   clear H
   obtain ⟨hcz14_0, hcz14_1, hcz14_2, hfz14_0, hfz14_1, hfz14_2⟩ := bx3_ BK412.out
   go_wp2_with (first | ((with_reducible refine gate_callee (f := 18) rfl ?_); refine goesL_ (some 9) rfl rfl Tryz.func18 (by kernel_rfl) rfl #[.slice A0_0 l0_0.length c0_0] rfl hL_ ?_; (with_reducible refine (sleuthref12_TrailMay.calls k _ _ l0_0 false _ ?side1 ?side2 A4.out).mono ?_); (case side1 => exact cB_ HR0_0.out); (case side2 => exact HC0_0.out); rintro e w15 ⟨rfl, hb⟩; refine ⟨_, rfl, ?_⟩; replace BK412 := a_ (bB_ BK412.out hb); replace HB := a_ (below_step hC_ hb); (try clear hb); (try clear hb2); (try clear hk); (try clear hi)))
   go_meet
   case rel => exact ⟨_, (true), hW_, H', ⟨by first | omega | exact Nat.le_refl _⟩, ⟨(hK_ BK412.out)⟩, ⟨hC_⟩⟩
  subst c5
  rw [if_pos rfl] at H
  replace H := Option.bind_eq_some_iff.mp H
  obtain ⟨t414, A60, H⟩ := H
  try dsimp only at H
  have A6 := a_ A60
  clear A60
  by_cases c7 : t414 = true
  case pos =>
   subst c7
   rw [if_pos rfl] at H
   have H' := a_ H
   clear H
   obtain ⟨hcz8_0, hcz8_1, hcz8_2, hfz8_0, hfz8_1, hfz8_2⟩ := bx3_ BK412.out
   go_wp2_with (first | ((with_reducible refine gate_callee (f := 18) rfl ?_); refine goesL_ (some 9) rfl rfl Tryz.func18 (by kernel_rfl) rfl #[.slice A0_0 l0_0.length c0_0] rfl hL_ ?_; (with_reducible refine (sleuthref12_TrailMay.calls k _ _ l0_0 true _ ?side1 ?side2 A4.out).mono ?_); (case side1 => exact cB_ HR0_0.out); (case side2 => exact HC0_0.out); rintro e w9 ⟨rfl, hb⟩; refine ⟨_, rfl, ?_⟩; replace BK412 := a_ (bB_ BK412.out hb); replace HB := a_ (below_step hC_ hb); (try clear hb); (try clear hb2); (try clear hk); (try clear hi); obtain ⟨hcz10_0, hcz10_1, hcz10_2, hfz10_0, hfz10_1, hfz10_2⟩ := bx3_ BK412.out) | (go_at_call 32; (with_reducible refine (sleuthref12_upTo.calls a0_1 0 1 true _ A6.out).mono ?_); rintro e w' ⟨rfl, ⟨nd, rfl⟩⟩))
   go_meet
   case rel => exact ⟨_, (decide ((l0_2.length : Int) > 512)), hW_, H', ⟨by first | omega | exact Nat.le_refl _⟩, ⟨(hK_ BK412.out)⟩, ⟨hC_⟩⟩
  replace c7 := Bool.eq_false_iff.mpr c7
  subst c7
  rw [if_neg (show ¬ (false = true) by decide)] at H
  have H' := a_ H
  clear H
  obtain ⟨hcz11_0, hcz11_1, hcz11_2, hfz11_0, hfz11_1, hfz11_2⟩ := bx3_ BK412.out
  go_wp2_with (first | ((with_reducible refine gate_callee (f := 18) rfl ?_); refine goesL_ (some 9) rfl rfl Tryz.func18 (by kernel_rfl) rfl #[.slice A0_0 l0_0.length c0_0] rfl hL_ ?_; (with_reducible refine (sleuthref12_TrailMay.calls k _ _ l0_0 true _ ?side1 ?side2 A4.out).mono ?_); (case side1 => exact cB_ HR0_0.out); (case side2 => exact HC0_0.out); rintro e w12 ⟨rfl, hb⟩; refine ⟨_, rfl, ?_⟩; replace BK412 := a_ (bB_ BK412.out hb); replace HB := a_ (below_step hC_ hb); (try clear hb); (try clear hb2); (try clear hk); (try clear hi); obtain ⟨hcz13_0, hcz13_1, hcz13_2, hfz13_0, hfz13_1, hfz13_2⟩ := bx3_ BK412.out) | (go_at_call 32; (with_reducible refine (sleuthref12_upTo.calls a0_1 0 1 false _ A6.out).mono ?_); rintro e w' ⟨rfl, ⟨nd, rfl⟩⟩))
  go_meet
  case rel => exact ⟨_, (true), hW_, H', ⟨by first | omega | exact Nat.le_refl _⟩, ⟨(hK_ BK412.out)⟩, ⟨hC_⟩⟩
 case rest =>
  clear HC2
  try clear c1
  try clear p2
  try clear c5
  try clear c7
  try clear hcz10_0
  try clear hcz10_1
  try clear hcz10_2
  try clear hcz11_0
  try clear hcz11_1
  try clear hcz11_2
  try clear hcz13_0
  try clear hcz13_1
  try clear hcz13_2
  try clear hcz14_0
  try clear hcz14_1
  try clear hcz14_2
  try clear hcz8_0
  try clear hcz8_1
  try clear hcz8_2
  try clear hfz10_0
  try clear hfz10_1
  try clear hfz10_2
  try clear hfz11_0
  try clear hfz11_1
  try clear hfz11_2
  try clear hfz13_0
  try clear hfz13_1
  try clear hfz13_2
  try clear hfz14_0
  try clear hfz14_1
  try clear hfz14_2
  try clear hfz8_0
  try clear hfz8_1
  try clear hfz8_2
  obtain ⟨kq, x22_1, rfl, HA, HJ1, BK412, HB⟩ := hcut
  cases kq with
  | zero => exact absurd HA.out (by simp [sleuthref12_SessionMay.j0])
  | succ kj1 =>
   have H := HA.out
   clear HA
   simp only [sleuthref12_SessionMay.j0] at H
   by_cases c16 : x22_1 = true
   case pos =>
    subst c16
    rw [if_pos rfl] at H
    obtain rfl := Option.some.inj H
    go_wp2
    go_ret
    exact ⟨hV_, hC_⟩
   replace c16 := Bool.eq_false_iff.mpr c16
   subst c16
   rw [if_neg (show ¬ (false = true) by decide)] at H
   replace H := ifI_ H; obtain ⟨c17, H⟩ := H
   have c17b0 := eq_true c17
   have c17b1 : decide (0 ≤ (l0_0.length : Int)) = true := decide_eq_true c17
   clear c17
   replace H := ifI_ H; obtain ⟨c18, H⟩ := H
   have c18b0 := eq_true c18
   have c18b1 : decide (((l0_0.length : Int) : Int).toNat ≤ 35184372088832) = true := decide_eq_true c18
   clear c18
   obtain ⟨y415, hy415⟩ : ∃ y_ : List Int, y_ = (List.replicate ((l0_0.length : Int) : Int).toNat 0) := ⟨_, rfl⟩
   replace H : (sleuthref12_SessionMay.l0 kj1 y415 0 l0_0 a0_1 l0_2) = some r := by first | (rw [hy415]; with_reducible exact H) | (have H2_ := (Option.bind_some _ _).symm.trans H; rw [hy415]; with_reducible exact H2_) | (have H2_ := (Option.bind_some _ _).symm.trans H; with_reducible exact H2_) | with_reducible exact H | (rw [hy415]; exact H) | exact H
   have Ny415 := a_ hy415
   clear hy415
   have H' := a_ H
   clear H
   obtain ⟨hcz19_0, hcz19_1, hcz19_2, hfz19_0, hfz19_1, hfz19_2⟩ := bx3_ BK412.out
   go_wp2_with (first | ((with_reducible refine gate_dst (N := 26) rfl ?_); (try (refine gate_guard (by rfl) ?_; dsimp only)); refine Kd.R_make (Kd.int .i64) _ 3 rfl (N := 26) rfl 41 _ _ rfl (l0_0.length : Int) rfl rfl Tryz.underlying41 (.int .i64 0) 8 info3 rfl (by decide) (by omega) 0 (ok := fun _ => True) (okp := fun _ => True) rfl (fun _ hk => hk) trivial (of_decide_eq_true hA_) (Nat.le_trans (Nat.mul_le_mul_right _ (of_decide_eq_true hA_ : (l0_0.length : Int).toNat ≤ 35184372088832)) (by omega)) (Below.refl _ _) (Nat.le_refl _) ?_; intro v416 w20 ho21 hb hg_ hnew_; clear hg_ hnew_; (first | rw [← Ny415.out] at ho21 | (simp only [Int.reduceToNat] at ho21; rw [← Ny415.out] at ho21)); have HO417 := a_ (Kd.R_lower ho21 (below_size hC_)); replace BK412 := a_ (bB_ BK412.out hb); replace HB := a_ (below_step hC_ hb); clear hb ho21))
   go_loopg [4] kj1 (fun kq v4 w' => ∃ (x3_2 : List Int) (x4_2 : Int), v4 = .int .i64 x4_2 ∧ Aside0 (sleuthref12_SessionMay.l0 kq x3_2 x4_2 l0_0 a0_1 l0_2 = some r) ∧ Aside0 (kq ≤ kj1) ∧ Aside0 (Kd.R (Kd.int .i64) 3 w' w.heap.size (fun _ => True) v416 x3_2) ∧ Aside0 (w'.heap[gb412]? = some (.cells #[(.slice A0_0 l0_0.length c0_0), .int .i64 a0_1, (.slice A0_2 l0_2.length c0_2)] 25 (0, 0))) ∧ Aside0 (Below w.heap.size w w'))
   case atStart => exact ⟨(y415), (0), hW_, H', ⟨Nat.le_refl _⟩, ⟨hR_ HO417.out⟩, ⟨(hK_ BK412.out)⟩, ⟨hC_⟩⟩
   case round =>
    clear H'
    try clear c1
    try clear p2
    try clear c5
    try clear c7
    try clear c16
    try clear c17
    try clear c17b0
    try clear c17b1
    try clear c18
    try clear c18b0
    try clear c18b1
    try clear hcz10_0
    try clear hcz10_1
    try clear hcz10_2
    try clear hcz11_0
    try clear hcz11_1
    try clear hcz11_2
    try clear hcz13_0
    try clear hcz13_1
    try clear hcz13_2
    try clear hcz14_0
    try clear hcz14_1
    try clear hcz14_2
    try clear hcz19_0
    try clear hcz19_1
    try clear hcz19_2
    try clear hcz8_0
    try clear hcz8_1
    try clear hcz8_2
    try clear hfz10_0
    try clear hfz10_1
    try clear hfz10_2
    try clear hfz11_0
    try clear hfz11_1
    try clear hfz11_2
    try clear hfz13_0
    try clear hfz13_1
    try clear hfz13_2
    try clear hfz14_0
    try clear hfz14_1
    try clear hfz14_2
    try clear hfz19_0
    try clear hfz19_1
    try clear hfz19_2
    try clear hfz8_0
    try clear hfz8_1
    try clear hfz8_2
    try clear p2
    obtain ⟨x3_2, x4_2, rfl, HA, HK2, HO_3, BK412, HB⟩ := hrel
    cases gk with
    | zero => exact absurd HA.out (by simp [sleuthref12_SessionMay.l0])
    | succ k2 =>
     have H := HA.out
     clear HA
     simp only [sleuthref12_SessionMay.l0] at H
     by_cases c22 : x4_2 < (l0_2.length : Int)
     case neg =>
      rw [if_neg c22] at H
      have c22b0 : decide (x4_2 < (l0_2.length : Int)) = false := decide_eq_false c22
      clear c22
      obtain rfl := Option.some.inj H
      obtain ⟨hcz83_0, hcz83_1, hcz83_2, hfz83_0, hfz83_1, hfz83_2⟩ := bx3_ BK412.out
      go_wp2
      go_ret
      exact ⟨hV_, hC_⟩
     rw [if_pos c22] at H
     have c22b0 : decide (x4_2 < (l0_2.length : Int)) = true := decide_eq_true c22
     clear c22
     replace H := ifI_ H; obtain ⟨c23, H⟩ := H
     have c23b0 : decide (0 ≤ x4_2) = true := decide_eq_true c23
     clear c23
     replace H := Option.bind_eq_some_iff.mp H
     obtain ⟨⟨t420, t421⟩, A240, H⟩ := H
     try dsimp only at H
     have A24 := a_ A240
     clear A240
     by_cases c25 : t420 = 0
     case neg =>
      rw [if_neg c25] at H
      have c25b0 : (t420 == 0) = false := beq_eq_false_iff_ne.mpr c25
      have c25b1 : (t420 != 0) = true := bne_iff_ne.mpr c25
      obtain rfl := Option.some.inj H
      obtain ⟨hcz72_0, hcz72_1, hcz72_2, hfz72_0, hfz72_1, hfz72_2⟩ := bx3_ BK412.out
      have p418 : 0 ≤ (x4_2 : Int) := of_decide_eq_true hA_
      have q418 : x4_2 < (l0_2.length : Int) := of_decide_eq_true hA_
      obtain ⟨ad418, e418, hx418_0, hx418_1⟩ := at_T53 HR0_2.out x4_2 p418 q418
      cases e418
      replace hx418_0 := cl_ HB.out hx418_0
      replace hx418_1 := cl_ HB.out hx418_1
      replace p418 := eq_true p418
      replace q418 := eq_true q418
      go_wp2_with (first | ((with_reducible refine gate_dst (N := 5) rfl ?_); (try (refine gate_guard (by rfl) ?_; dsimp only)); refine boxE_ 5 #[.int .i64 0, .int .i64 0] 53 ?_; intro gb419 hg w73 hbox hb; replace HO_3 := a_ (Kd.R_below (hR_ HO_3.out) hb); have BK419 := a_ (hbox); have GW419 := a_ ((gE_ hg : w.heap.size ≤ gb419)); have GE419 := a_ ((gE_ hg : w.heap.size ≤ gb419)); replace HB := a_ (below_step hC_ hb); have NB412_419 := a_ ((bL_ BK412.out hg : gb412 ≠ gb419)); have NB419_412 := a_ ((bG_ BK412.out hg : gb419 ≠ gb412)); replace BK412 := a_ (bB_ BK412.out hb); clear hb hbox hg; have hnb74 := NB419_412.out; have hnc74 := NB412_419.out; obtain ⟨hcz75_0, hcz75_1, hfz75_0, hfz75_1⟩ := bx2_ BK419.out; obtain ⟨hcz76_0, hcz76_1, hcz76_2, hfz76_0, hfz76_1, hfz76_2⟩ := bx3_ BK412.out; obtain ⟨Ao77, co77, eo77⟩ := Kd.R_slice HO_3.out; subst eo77) | ((with_reducible refine gate_callee (f := 33) rfl ?_); refine goesL_ (some 44) rfl rfl Tryz.func33 (by kernel_rfl) rfl #[.slice A0_0 l0_0.length c0_0, .int .i64 a0_1, .slice Ao77 x3_2.length co77] rfl hL_ ?_; (with_reducible refine (sleuthref12_asks.calls k2 _ _ l0_0 a0_1 _ _ x3_2 t420 t421 _ ?side1 ?side2 ?side3 ?side4 A24.out).mono ?_); (case side1 => exact Kd.C_below HR0_0.out hC_); (case side2 => exact HC0_0.out); (case side3 => refine (Kd.R_reads' (e := 3) (base := w.heap.size) (ok := fun k_ => True) (n := x3_2.length) (c := co77) ?_).2.2; exact (by (with_reducible repeat (first | apply Kd.R_alloc | apply Kd.R_drewN | apply Kd.R_drew)); exact (Kd.R_mono (rF_ (rF_ (Kd.R_types HO_3.out BK419.out (by decide)))) (fun _ h_ => h_.1)))); (case side4 => exact (Kd.R_reads' HO_3.out).2.1); rintro e w78 ⟨rfl, hb⟩; refine ⟨_, rfl, ?_⟩; replace HO_3 := a_ (Kd.R_below (by (with_reducible repeat (first | apply Kd.R_alloc | apply Kd.R_drewN | apply Kd.R_drew)); exact (Kd.R_mono (rF_ (rF_ (Kd.R_types HO_3.out BK419.out (by decide)))) (fun _ h_ => h_.1))) hb); replace BK412 := a_ (blk_below (g := gb412) (o := .cells #[.slice A0_0 l0_0.length c0_0, .int .i64 a0_1, .slice (some ad418) l0_2.length c0_2] 25 (0, 0)) (bF_ (bF_ (hK_ BK412.out) NB412_419.out) NB412_419.out) hb); replace BK419 := a_ (blk_below (g := gb419) (o := .cells #[.int .i64 ((rd_T53 l0_2 x4_2).f0), .int .i64 ((rd_T53 l0_2 x4_2).f1)] 53 (0, 0)) (bP_ (bP_ (hK_ BK419.out))) hb); replace HB := a_ (below_step hC_ hb); (try clear hb); (try clear hb2); (try clear hk); (try clear hi)) | ((with_reducible refine gate_dst (N := 6) rfl ?_); (try (refine gate_guard (by rfl) ?_; dsimp only)); refine boxE_ 6 #[.int .i64 0, .int .i64 0] 49 ?_; intro gb422 hg w79 hbox hb; replace HO_3 := a_ (Kd.R_below (hR_ HO_3.out) hb); have BK422 := a_ (hbox); have GW422 := a_ ((gE_ hg : w.heap.size ≤ gb422)); have GE422 := a_ ((gE_ hg : w.heap.size ≤ gb422)); replace HB := a_ (below_step hC_ hb); have NB412_422 := a_ ((bL_ BK412.out hg : gb412 ≠ gb422)); have NB422_412 := a_ ((bG_ BK412.out hg : gb422 ≠ gb412)); replace BK412 := a_ (bB_ BK412.out hb); have NB419_422 := a_ ((bL_ BK419.out hg : gb419 ≠ gb422)); have NB422_419 := a_ ((bG_ BK419.out hg : gb422 ≠ gb419)); replace BK419 := a_ (bB_ BK419.out hb); clear hb hbox hg; have hnb80 := NB422_412.out; have hnc80 := NB412_422.out; have hnb81 := NB422_419.out; have hnc81 := NB419_422.out; obtain ⟨hcz82_0, hcz82_1, hfz82_0, hfz82_1⟩ := bx2_ BK422.out))
      go_ret
      exact ⟨hV_, hC_⟩
     rw [if_pos c25] at H
     have c25b0 : (t420 == 0) = true := beq_iff_eq.mpr c25
     have c25b1 : (t420 != 0) = false := bne_eq_false_iff_eq.mpr c25
     clear c25
     by_cases c26 : t421 = ((rd_T53 l0_2 x4_2).f0)
     case neg =>
      rw [if_neg c26] at H
      have c26b0 : (t421 == ((rd_T53 l0_2 x4_2).f0)) = false := beq_eq_false_iff_ne.mpr c26
      have c26b1 : (t421 != ((rd_T53 l0_2 x4_2).f0)) = true := bne_iff_ne.mpr c26
      obtain rfl := Option.some.inj H
      obtain ⟨hcz60_0, hcz60_1, hcz60_2, hfz60_0, hfz60_1, hfz60_2⟩ := bx3_ BK412.out
      have p418 : 0 ≤ (x4_2 : Int) := of_decide_eq_true hA_
      have q418 : x4_2 < (l0_2.length : Int) := of_decide_eq_true hA_
      obtain ⟨ad418, e418, hx418_0, hx418_1⟩ := at_T53 HR0_2.out x4_2 p418 q418
      cases e418
      replace hx418_0 := cl_ HB.out hx418_0
      replace hx418_1 := cl_ HB.out hx418_1
      replace p418 := eq_true p418
      replace q418 := eq_true q418
      go_wp2_with (first | ((with_reducible refine gate_dst (N := 5) rfl ?_); (try (refine gate_guard (by rfl) ?_; dsimp only)); refine boxE_ 5 #[.int .i64 0, .int .i64 0] 53 ?_; intro gb419 hg w61 hbox hb; replace HO_3 := a_ (Kd.R_below (hR_ HO_3.out) hb); have BK419 := a_ (hbox); have GW419 := a_ ((gE_ hg : w.heap.size ≤ gb419)); have GE419 := a_ ((gE_ hg : w.heap.size ≤ gb419)); replace HB := a_ (below_step hC_ hb); have NB412_419 := a_ ((bL_ BK412.out hg : gb412 ≠ gb419)); have NB419_412 := a_ ((bG_ BK412.out hg : gb419 ≠ gb412)); replace BK412 := a_ (bB_ BK412.out hb); clear hb hbox hg; have hnb62 := NB419_412.out; have hnc62 := NB412_419.out; obtain ⟨hcz63_0, hcz63_1, hfz63_0, hfz63_1⟩ := bx2_ BK419.out; obtain ⟨hcz64_0, hcz64_1, hcz64_2, hfz64_0, hfz64_1, hfz64_2⟩ := bx3_ BK412.out; obtain ⟨Ao65, co65, eo65⟩ := Kd.R_slice HO_3.out; subst eo65) | ((with_reducible refine gate_callee (f := 33) rfl ?_); refine goesL_ (some 44) rfl rfl Tryz.func33 (by kernel_rfl) rfl #[.slice A0_0 l0_0.length c0_0, .int .i64 a0_1, .slice Ao65 x3_2.length co65] rfl hL_ ?_; (with_reducible refine (sleuthref12_asks.calls k2 _ _ l0_0 a0_1 _ _ x3_2 t420 t421 _ ?side1 ?side2 ?side3 ?side4 A24.out).mono ?_); (case side1 => exact Kd.C_below HR0_0.out hC_); (case side2 => exact HC0_0.out); (case side3 => refine (Kd.R_reads' (e := 3) (base := w.heap.size) (ok := fun k_ => True) (n := x3_2.length) (c := co65) ?_).2.2; exact (by (with_reducible repeat (first | apply Kd.R_alloc | apply Kd.R_drewN | apply Kd.R_drew)); exact (Kd.R_mono (rF_ (rF_ (Kd.R_types HO_3.out BK419.out (by decide)))) (fun _ h_ => h_.1)))); (case side4 => exact (Kd.R_reads' HO_3.out).2.1); rintro e w66 ⟨rfl, hb⟩; refine ⟨_, rfl, ?_⟩; replace HO_3 := a_ (Kd.R_below (by (with_reducible repeat (first | apply Kd.R_alloc | apply Kd.R_drewN | apply Kd.R_drew)); exact (Kd.R_mono (rF_ (rF_ (Kd.R_types HO_3.out BK419.out (by decide)))) (fun _ h_ => h_.1))) hb); replace BK412 := a_ (blk_below (g := gb412) (o := .cells #[.slice A0_0 l0_0.length c0_0, .int .i64 a0_1, .slice (some ad418) l0_2.length c0_2] 25 (0, 0)) (bF_ (bF_ (hK_ BK412.out) NB412_419.out) NB412_419.out) hb); replace BK419 := a_ (blk_below (g := gb419) (o := .cells #[.int .i64 ((rd_T53 l0_2 x4_2).f0), .int .i64 ((rd_T53 l0_2 x4_2).f1)] 53 (0, 0)) (bP_ (bP_ (hK_ BK419.out))) hb); replace HB := a_ (below_step hC_ hb); (try clear hb); (try clear hb2); (try clear hk); (try clear hi)) | ((with_reducible refine gate_dst (N := 6) rfl ?_); (try (refine gate_guard (by rfl) ?_; dsimp only)); refine boxE_ 6 #[.int .i64 0, .int .i64 0] 49 ?_; intro gb422 hg w67 hbox hb; replace HO_3 := a_ (Kd.R_below (hR_ HO_3.out) hb); have BK422 := a_ (hbox); have GW422 := a_ ((gE_ hg : w.heap.size ≤ gb422)); have GE422 := a_ ((gE_ hg : w.heap.size ≤ gb422)); replace HB := a_ (below_step hC_ hb); have NB412_422 := a_ ((bL_ BK412.out hg : gb412 ≠ gb422)); have NB422_412 := a_ ((bG_ BK412.out hg : gb422 ≠ gb412)); replace BK412 := a_ (bB_ BK412.out hb); have NB419_422 := a_ ((bL_ BK419.out hg : gb419 ≠ gb422)); have NB422_419 := a_ ((bG_ BK419.out hg : gb422 ≠ gb419)); replace BK419 := a_ (bB_ BK419.out hb); clear hb hbox hg; have hnb68 := NB422_412.out; have hnc68 := NB412_422.out; have hnb69 := NB422_419.out; have hnc69 := NB419_422.out; obtain ⟨hcz70_0, hcz70_1, hfz70_0, hfz70_1⟩ := bx2_ BK422.out; obtain ⟨hcz71_0, hcz71_1, hfz71_0, hfz71_1⟩ := bx2_ BK419.out))
      go_ret
      exact ⟨hV_, hC_⟩
     rw [if_pos c26] at H
     have c26b0 : (t421 == ((rd_T53 l0_2 x4_2).f0)) = true := beq_iff_eq.mpr c26
     have c26b1 : (t421 != ((rd_T53 l0_2 x4_2).f0)) = false := bne_eq_false_iff_eq.mpr c26
     clear c26
     replace H := Option.bind_eq_some_iff.mp H
     obtain ⟨t423, A270, H⟩ := H
     try dsimp only at H
     have A27 := a_ A270
     clear A270
     by_cases c28 : t423 = true
     case neg =>
      replace c28 := Bool.eq_false_iff.mpr c28
      subst c28
      rw [if_neg (show ¬ (false = true) by decide)] at H
      obtain rfl := Option.some.inj H
      obtain ⟨hcz48_0, hcz48_1, hcz48_2, hfz48_0, hfz48_1, hfz48_2⟩ := bx3_ BK412.out
      have p418 : 0 ≤ (x4_2 : Int) := of_decide_eq_true hA_
      have q418 : x4_2 < (l0_2.length : Int) := of_decide_eq_true hA_
      obtain ⟨ad418, e418, hx418_0, hx418_1⟩ := at_T53 HR0_2.out x4_2 p418 q418
      cases e418
      replace hx418_0 := cl_ HB.out hx418_0
      replace hx418_1 := cl_ HB.out hx418_1
      replace p418 := eq_true p418
      replace q418 := eq_true q418
      go_wp2_with (first | ((with_reducible refine gate_dst (N := 5) rfl ?_); (try (refine gate_guard (by rfl) ?_; dsimp only)); refine boxE_ 5 #[.int .i64 0, .int .i64 0] 53 ?_; intro gb419 hg w49 hbox hb; replace HO_3 := a_ (Kd.R_below (hR_ HO_3.out) hb); have BK419 := a_ (hbox); have GW419 := a_ ((gE_ hg : w.heap.size ≤ gb419)); have GE419 := a_ ((gE_ hg : w.heap.size ≤ gb419)); replace HB := a_ (below_step hC_ hb); have NB412_419 := a_ ((bL_ BK412.out hg : gb412 ≠ gb419)); have NB419_412 := a_ ((bG_ BK412.out hg : gb419 ≠ gb412)); replace BK412 := a_ (bB_ BK412.out hb); clear hb hbox hg; have hnb50 := NB419_412.out; have hnc50 := NB412_419.out; obtain ⟨hcz51_0, hcz51_1, hfz51_0, hfz51_1⟩ := bx2_ BK419.out; obtain ⟨hcz52_0, hcz52_1, hcz52_2, hfz52_0, hfz52_1, hfz52_2⟩ := bx3_ BK412.out; obtain ⟨Ao53, co53, eo53⟩ := Kd.R_slice HO_3.out; subst eo53) | ((with_reducible refine gate_callee (f := 33) rfl ?_); refine goesL_ (some 44) rfl rfl Tryz.func33 (by kernel_rfl) rfl #[.slice A0_0 l0_0.length c0_0, .int .i64 a0_1, .slice Ao53 x3_2.length co53] rfl hL_ ?_; (with_reducible refine (sleuthref12_asks.calls k2 _ _ l0_0 a0_1 _ _ x3_2 t420 t421 _ ?side1 ?side2 ?side3 ?side4 A24.out).mono ?_); (case side1 => exact Kd.C_below HR0_0.out hC_); (case side2 => exact HC0_0.out); (case side3 => refine (Kd.R_reads' (e := 3) (base := w.heap.size) (ok := fun k_ => True) (n := x3_2.length) (c := co53) ?_).2.2; exact (by (with_reducible repeat (first | apply Kd.R_alloc | apply Kd.R_drewN | apply Kd.R_drew)); exact (Kd.R_mono (rF_ (rF_ (Kd.R_types HO_3.out BK419.out (by decide)))) (fun _ h_ => h_.1)))); (case side4 => exact (Kd.R_reads' HO_3.out).2.1); rintro e w54 ⟨rfl, hb⟩; refine ⟨_, rfl, ?_⟩; replace HO_3 := a_ (Kd.R_below (by (with_reducible repeat (first | apply Kd.R_alloc | apply Kd.R_drewN | apply Kd.R_drew)); exact (Kd.R_mono (rF_ (rF_ (Kd.R_types HO_3.out BK419.out (by decide)))) (fun _ h_ => h_.1))) hb); replace BK412 := a_ (blk_below (g := gb412) (o := .cells #[.slice A0_0 l0_0.length c0_0, .int .i64 a0_1, .slice (some ad418) l0_2.length c0_2] 25 (0, 0)) (bF_ (bF_ (hK_ BK412.out) NB412_419.out) NB412_419.out) hb); replace BK419 := a_ (blk_below (g := gb419) (o := .cells #[.int .i64 ((rd_T53 l0_2 x4_2).f0), .int .i64 ((rd_T53 l0_2 x4_2).f1)] 53 (0, 0)) (bP_ (bP_ (hK_ BK419.out))) hb); replace HB := a_ (below_step hC_ hb); (try clear hb); (try clear hb2); (try clear hk); (try clear hi)) | ((with_reducible refine gate_dst (N := 6) rfl ?_); (try (refine gate_guard (by rfl) ?_; dsimp only)); refine boxE_ 6 #[.int .i64 0, .int .i64 0] 49 ?_; intro gb422 hg w55 hbox hb; replace HO_3 := a_ (Kd.R_below (hR_ HO_3.out) hb); have BK422 := a_ (hbox); have GW422 := a_ ((gE_ hg : w.heap.size ≤ gb422)); have GE422 := a_ ((gE_ hg : w.heap.size ≤ gb422)); replace HB := a_ (below_step hC_ hb); have NB412_422 := a_ ((bL_ BK412.out hg : gb412 ≠ gb422)); have NB422_412 := a_ ((bG_ BK412.out hg : gb422 ≠ gb412)); replace BK412 := a_ (bB_ BK412.out hb); have NB419_422 := a_ ((bL_ BK419.out hg : gb419 ≠ gb422)); have NB422_419 := a_ ((bG_ BK419.out hg : gb422 ≠ gb419)); replace BK419 := a_ (bB_ BK419.out hb); clear hb hbox hg; have hnb56 := NB422_412.out; have hnc56 := NB412_422.out; have hnb57 := NB422_419.out; have hnc57 := NB419_422.out; obtain ⟨hcz58_0, hcz58_1, hfz58_0, hfz58_1⟩ := bx2_ BK422.out; obtain ⟨hcz59_0, hcz59_1, hfz59_0, hfz59_1⟩ := bx2_ BK419.out) | (go_at_call 25; (with_reducible refine (sleuthref12_markMay.calls ((rd_T53 l0_2 x4_2).f1) false _ A27.out).mono ?_); rintro e w' ⟨rfl, ⟨nd, rfl⟩⟩))
      go_ret
      exact ⟨hV_, hC_⟩
     subst c28
     rw [if_pos rfl] at H
     replace H := ifI_ H; obtain ⟨c29, H⟩ := H
     have c29b0 : decide (0 ≤ ((rd_T53 l0_2 x4_2).f0)) = true := decide_eq_true c29
     clear c29
     replace H := ifI_ H; obtain ⟨c30, H⟩ := H
     have c30b0 : decide (((rd_T53 l0_2 x4_2).f0) < (x3_2.length : Int)) = true := decide_eq_true c30
     clear c30
     obtain ⟨y424, hy424⟩ : ∃ y_ : List Int, y_ = (x3_2.set (((rd_T53 l0_2 x4_2).f0) : Int).toNat ((rd_T53 l0_2 x4_2).f1)) := ⟨_, rfl⟩
     replace H : (sleuthref12_SessionMay.l0 k2 y424 (wrap64 (x4_2 + 1)) l0_0 a0_1 l0_2) = some r := by first | (rw [hy424]; with_reducible exact H) | (have H2_ := (Option.bind_some _ _).symm.trans H; rw [hy424]; with_reducible exact H2_) | (have H2_ := (Option.bind_some _ _).symm.trans H; with_reducible exact H2_) | with_reducible exact H | (rw [hy424]; exact H) | exact H
     have Ny424 := a_ hy424
     clear hy424
     have H' := a_ H
     clear H
     obtain ⟨hcz32_0, hcz32_1, hcz32_2, hfz32_0, hfz32_1, hfz32_2⟩ := bx3_ BK412.out
     have p418 : 0 ≤ (x4_2 : Int) := of_decide_eq_true hA_
     have q418 : x4_2 < (l0_2.length : Int) := of_decide_eq_true hA_
     obtain ⟨ad418, e418, hx418_0, hx418_1⟩ := at_T53 HR0_2.out x4_2 p418 q418
     cases e418
     replace hx418_0 := cl_ HB.out hx418_0
     replace hx418_1 := cl_ HB.out hx418_1
     replace p418 := eq_true p418
     replace q418 := eq_true q418
     go_wp2_with (first | ((with_reducible refine gate_dst (N := 5) rfl ?_); (try (refine gate_guard (by rfl) ?_; dsimp only)); refine boxE_ 5 #[.int .i64 0, .int .i64 0] 53 ?_; intro gb419 hg w33 hbox hb; replace HO_3 := a_ (Kd.R_below (hR_ HO_3.out) hb); have BK419 := a_ (hbox); have GW419 := a_ ((gE_ hg : w.heap.size ≤ gb419)); have GE419 := a_ ((gE_ hg : w.heap.size ≤ gb419)); replace HB := a_ (below_step hC_ hb); have NB412_419 := a_ ((bL_ BK412.out hg : gb412 ≠ gb419)); have NB419_412 := a_ ((bG_ BK412.out hg : gb419 ≠ gb412)); replace BK412 := a_ (bB_ BK412.out hb); clear hb hbox hg; have hnb34 := NB419_412.out; have hnc34 := NB412_419.out; obtain ⟨hcz35_0, hcz35_1, hfz35_0, hfz35_1⟩ := bx2_ BK419.out; obtain ⟨hcz36_0, hcz36_1, hcz36_2, hfz36_0, hfz36_1, hfz36_2⟩ := bx3_ BK412.out; obtain ⟨Ao37, co37, eo37⟩ := Kd.R_slice HO_3.out; subst eo37) | ((with_reducible refine gate_callee (f := 33) rfl ?_); refine goesL_ (some 44) rfl rfl Tryz.func33 (by kernel_rfl) rfl #[.slice A0_0 l0_0.length c0_0, .int .i64 a0_1, .slice Ao37 x3_2.length co37] rfl hL_ ?_; (with_reducible refine (sleuthref12_asks.calls k2 _ _ l0_0 a0_1 _ _ x3_2 t420 t421 _ ?side1 ?side2 ?side3 ?side4 A24.out).mono ?_); (case side1 => exact Kd.C_below HR0_0.out hC_); (case side2 => exact HC0_0.out); (case side3 => refine (Kd.R_reads' (e := 3) (base := w.heap.size) (ok := fun k_ => True) (n := x3_2.length) (c := co37) ?_).2.2; exact (by (with_reducible repeat (first | apply Kd.R_alloc | apply Kd.R_drewN | apply Kd.R_drew)); exact (Kd.R_mono (rF_ (rF_ (Kd.R_types HO_3.out BK419.out (by decide)))) (fun _ h_ => h_.1)))); (case side4 => exact (Kd.R_reads' HO_3.out).2.1); rintro e w38 ⟨rfl, hb⟩; refine ⟨_, rfl, ?_⟩; replace HO_3 := a_ (Kd.R_below (by (with_reducible repeat (first | apply Kd.R_alloc | apply Kd.R_drewN | apply Kd.R_drew)); exact (Kd.R_mono (rF_ (rF_ (Kd.R_types HO_3.out BK419.out (by decide)))) (fun _ h_ => h_.1))) hb); replace BK412 := a_ (blk_below (g := gb412) (o := .cells #[.slice A0_0 l0_0.length c0_0, .int .i64 a0_1, .slice (some ad418) l0_2.length c0_2] 25 (0, 0)) (bF_ (bF_ (hK_ BK412.out) NB412_419.out) NB412_419.out) hb); replace BK419 := a_ (blk_below (g := gb419) (o := .cells #[.int .i64 ((rd_T53 l0_2 x4_2).f0), .int .i64 ((rd_T53 l0_2 x4_2).f1)] 53 (0, 0)) (bP_ (bP_ (hK_ BK419.out))) hb); replace HB := a_ (below_step hC_ hb); (try clear hb); (try clear hb2); (try clear hk); (try clear hi)) | ((with_reducible refine gate_dst (N := 6) rfl ?_); (try (refine gate_guard (by rfl) ?_; dsimp only)); refine boxE_ 6 #[.int .i64 0, .int .i64 0] 49 ?_; intro gb422 hg w39 hbox hb; replace HO_3 := a_ (Kd.R_below (hR_ HO_3.out) hb); have BK422 := a_ (hbox); have GW422 := a_ ((gE_ hg : w.heap.size ≤ gb422)); have GE422 := a_ ((gE_ hg : w.heap.size ≤ gb422)); replace HB := a_ (below_step hC_ hb); have NB412_422 := a_ ((bL_ BK412.out hg : gb412 ≠ gb422)); have NB422_412 := a_ ((bG_ BK412.out hg : gb422 ≠ gb412)); replace BK412 := a_ (bB_ BK412.out hb); have NB419_422 := a_ ((bL_ BK419.out hg : gb419 ≠ gb422)); have NB422_419 := a_ ((bG_ BK419.out hg : gb422 ≠ gb419)); replace BK419 := a_ (bB_ BK419.out hb); clear hb hbox hg; have hnb40 := NB422_412.out; have hnc40 := NB412_422.out; have hnb41 := NB422_419.out; have hnc41 := NB419_422.out; obtain ⟨hcz42_0, hcz42_1, hfz42_0, hfz42_1⟩ := bx2_ BK422.out) | ((with_reducible refine gate_store (t := 49) (p := 6) rfl ?_); refine store_event (t := 49) (p := 6) (v := ?vo_w43) (w1 := ((w39.setCell ⟨gb422, 0, none⟩ (.int .i64 t420)).setCell ⟨gb422, 1, none⟩ (.int .i64 t421))) ?hg ?ho ?hn ?hr ?_; (case ho => rfl); (case hg => rfl); (case hn => rfl); (case hr => first | (go_simp; done) | (go_simp; rfl)); intro w43 hw; replace HO_3 : Aside0 (Kd.R (Kd.int .i64) 3 w43 w.heap.size (fun _ => True) (.slice Ao37 x3_2.length co37) x3_2) := ⟨(by rw [hw]; exact (by (with_reducible repeat (first | apply Kd.R_alloc | apply Kd.R_drewN | apply Kd.R_drew)); exact Kd.R_mono (rF_ (rF_ (Kd.R_types HO_3.out BK422.out (by decide)))) (fun _ hk => trivial)))⟩; replace BK412 : Aside0 (w43.heap[gb412]? = some (.cells #[.slice A0_0 l0_0.length c0_0, .int .i64 a0_1, .slice (some ad418) l0_2.length c0_2] 25 (0, 0))) := ⟨(by rw [hw]; exact (bF_ (bF_ (hK_ BK412.out) NB412_422.out) NB412_422.out))⟩; replace BK419 : Aside0 (w43.heap[gb419]? = some (.cells #[.int .i64 ((rd_T53 l0_2 x4_2).f0), .int .i64 ((rd_T53 l0_2 x4_2).f1)] 53 (0, 0))) := ⟨(by rw [hw]; exact (bF_ (bF_ (hK_ BK419.out) NB419_422.out) NB419_422.out))⟩; replace BK422 : Aside0 (w43.heap[gb422]? = some (.cells #[.int .i64 t420, .int .i64 t421] 49 (0, 0))) := ⟨(by rw [hw]; exact (bP_ (bP_ (hK_ BK422.out))))⟩; replace HB : Aside0 (Below w.heap.size w w43) := ⟨(by rw [hw]; exact hC_)⟩; clear hw; obtain ⟨hcz44_0, hcz44_1, hfz44_0, hfz44_1⟩ := bx2_ BK422.out; obtain ⟨hcz45_0, hcz45_1, hfz45_0, hfz45_1⟩ := bx2_ BK419.out) | (go_at_call 25; (with_reducible refine (sleuthref12_markMay.calls ((rd_T53 l0_2 x4_2).f1) true _ A27.out).mono ?_); rintro e w' ⟨rfl, ⟨nd, rfl⟩⟩; (try (rw [drewN_self w43]; generalize hq_ : World.drewN w43 _ = w43; replace HO_3 : Aside0 (Kd.R (Kd.int .i64) 3 w43 w.heap.size (fun _ => True) (.slice Ao37 x3_2.length co37) x3_2) := ⟨by rw [← hq_]; exact (hR_ HO_3.out)⟩; replace BK412 : Aside0 (w43.heap[gb412]? = some (.cells #[.slice A0_0 l0_0.length c0_0, .int .i64 a0_1, .slice (some ad418) l0_2.length c0_2] 25 (0, 0))) := ⟨by rw [← hq_]; exact (hK_ BK412.out)⟩; replace BK419 : Aside0 (w43.heap[gb419]? = some (.cells #[.int .i64 ((rd_T53 l0_2 x4_2).f0), .int .i64 ((rd_T53 l0_2 x4_2).f1)] 53 (0, 0))) := ⟨by rw [← hq_]; exact (hK_ BK419.out)⟩; replace BK422 : Aside0 (w43.heap[gb422]? = some (.cells #[.int .i64 t420, .int .i64 t421] 49 (0, 0))) := ⟨by rw [← hq_]; exact (hK_ BK422.out)⟩; replace HB : Aside0 (Below w.heap.size w w43) := ⟨by rw [← hq_]; exact hC_⟩; clear hq_; (try have hcu0_0 := bc0_ BK412.out); (try have hfu0_0 := blk_frozen BK412.out 0); (try have hcu0_1 := bc1_ BK412.out); (try have hfu0_1 := blk_frozen BK412.out 1); (try have hcu0_2 := bc2_ BK412.out); (try have hfu0_2 := blk_frozen BK412.out 2); (try have hcu1_0 := bc0_ BK419.out); (try have hfu1_0 := blk_frozen BK419.out 0); (try have hcu1_1 := bc1_ BK419.out); (try have hfu1_1 := blk_frozen BK419.out 1); (try have hcu2_0 := bc0_ BK422.out); (try have hfu2_0 := blk_frozen BK422.out 0); (try have hcu2_1 := bc1_ BK422.out); (try have hfu2_1 := blk_frozen BK422.out 1))); have p31 : 0 ≤ (((rd_T53 l0_2 x4_2).f0) : Int) := of_decide_eq_true hA_; have q31 : (((rd_T53 l0_2 x4_2).f0) : Int) < ((x3_2.length : Int) : Int) := of_decide_eq_true hA_; obtain ⟨go31, co31, eo31, gb31, gl31, cl31, HG31⟩ := Kd.R_form HO_3.out (by omega); (first | cases eo31 | (injection eo31 with ea_ en_ ec_; (first | subst ea_ | (injection ea_ with ea_; subst ea_)); subst ec_; clear en_)); have GB31 := a_ gb31; have GG31 := a_ HG31; clear gb31 gl31 HG31; obtain ⟨hx31_0, hf31_0⟩ := Kd.R_celln 0 HO_3.out (((rd_T53 l0_2 x4_2).f0) : Int) p31 q31; replace p31 := eq_true p31; replace q31 := eq_true q31; obtain ⟨hy46_, hz46_⟩ := Kd.R_celln 0 HO_3.out (((rd_T53 l0_2 x4_2).f0) : Int) (of_decide_eq_true hA_) (of_decide_eq_true hA_); have HP46 := Kd.R_putg HO_3.out (((rd_T53 l0_2 x4_2).f0) : Int) ((rd_T53 l0_2 x4_2).f1)) | ((with_reducible refine gate_store (t := 3) (p := 66) rfl ?_); refine store_event (t := 3) (p := 66) (v := ?vo_w47) (w1 := (w43.setCell ⟨go31, (((rd_T53 l0_2 x4_2).f0) : Int).toNat, none⟩ (.int .i64 ((rd_T53 l0_2 x4_2).f1)))) ?hg ?ho ?hn ?hr ?_; (case ho => rfl); (case hg => rfl); (case hn => rfl); (case hr => first | (go_simp; done) | (go_simp; rfl)); intro w47 hw; have hg : w43.grownBy w47 (some go31) := (by rw [hw]; exact HP46.2); have hp_ : Kd.R (Kd.int .i64) 3 w47 w.heap.size (fun _ => True) (.slice (some ⟨go31, 0, none⟩) x3_2.length co37) y424 := (by rw [hw, Ny424.out]; exact HP46.1); clear HP46; replace BK412 := a_ (blk_grown (hK_ BK412.out) hg (Kd.R_ne HO_3.out BK412.out (by decide))); replace BK419 := a_ (blk_grown (hK_ BK419.out) hg (Kd.R_ne HO_3.out BK419.out (by decide))); replace BK422 := a_ (blk_grown (hK_ BK422.out) hg (Kd.R_ne HO_3.out BK422.out (by decide))); replace HO_3 := a_ (hp_); replace HB := a_ ((by rw [hw]; exact below_set (HB.out) GB31.out : Below w.heap.size w w47)); clear hg hw hp_))
     go_roundg k2
     case measure => have := HJ1.out; have := HK2.out; omega
     case rel => exact ⟨(y424), (wrap64 (x4_2 + 1)), hW_, H', ⟨by have := HJ1.out; have := HK2.out; omega⟩, ⟨hR_ HO_3.out⟩, ⟨(hK_ BK412.out)⟩, ⟨hC_⟩⟩
end Go.Proofs.YtbnljapgnfmmoaaGreatDoor.G
end
section
/- What package session answers, and the document's answer, as plain functions. -/
namespace Go.Proofs.YtbnljapgnfmmoaaGreatDoor.G
open Go.RowKit Go.Proofs.YtbnljapgnfmmoaaGreatDoorW.PrintWords Go.Proofs.YtbnljapgnfmmoaaGreatDoorW.PrintLast Go.Proofs.YtbnljapgnfmmoaaGreatDoorW.PrintMore
set_option linter.unusedVariables false
set_option linter.unusedSimpArgs false
theorem marksS_set {ns : List Nd} {m : List Int} (h : marksS ns m = true) (i : Nat) (v : Int) (hv : markB v = true) : marksS ns (m.set i v) = true := by
  obtain ⟨hm, hl, hx⟩ := marksS_spec h
  have hb := markB_spec hv
  unfold marksS
  rw [hm, List.length_set, hl, decide_eq_true rfl, Bool.true_and, Bool.true_and, Bool.not_eq_true', List.any_eq_false]
  intro x hx'
  rcases List.mem_or_eq_of_mem_set hx' with h1 | rfl
  · rw [hx x h1]; exact Bool.false_ne_true
  · unfold oddB
    rw [decide_eq_false (by omega), decide_eq_false (by omega)]; exact Bool.false_ne_true
theorem marksS_zero {ns : List Nd} (h : mayT ns = true) : marksS ns (List.replicate ns.length 0) = true := by
  unfold marksS
  rw [h, List.length_replicate, decide_eq_true rfl, Bool.true_and, Bool.true_and, Bool.not_eq_true', List.any_eq_false]
  intro x hx
  rw [List.eq_of_mem_replicate hx]
  exact Bool.false_ne_true
/-- are these the answers of a search? -/
def goS (ns : List Nd) (w : Int) : List An → List Int → Bool
  | [], _ => true
  | a :: t, m => if (!((askW w ns m).1 == 0) || (!((askW w ns m).2 == a.f0))) = true then false else if markB a.f1 = true then goS ns w t (m.set a.f0.toNat a.f1) else false
theorem goS_step {ns : List Nd} {w : Int} {a : An} {t : List An} {m : List Int} (h : goS ns w (a :: t) m = true) : (askW w ns m).1 = 0 ∧ (askW w ns m).2 = a.f0 ∧ markB a.f1 = true ∧ goS ns w t (m.set a.f0.toNat a.f1) = true := by
  rw [goS] at h
  by_cases c : (!((askW w ns m).1 == 0) || (!((askW w ns m).2 == a.f0))) = true
  · rw [if_pos c] at h; cases h
  · rw [if_neg c] at h
    by_cases d : markB a.f1 = true
    · rw [if_pos d] at h
      rw [Bool.or_eq_true, Bool.not_eq_true', Bool.not_eq_true', beq_eq_false_iff_ne, beq_eq_false_iff_ne] at c
      exact ⟨Classical.not_not.1 fun e => c (.inl e), Classical.not_not.1 fun e => c (.inr e), d, h⟩
    · rw [if_neg d] at h; cases h
theorem may_l0 (ns : List Nd) (w : Int) (zs : List An) (hz : zs.length ≤ 9223372036854775806) : ∀ (n i : Nat) (m : List Int), i + n = zs.length → marksS ns m = true → Ev (fun k => session_May.l0 k ns w zs m (i : Int)) (goS ns w (zs.drop i) m) := by
  intro n
  induction n with
  | zero =>
    intro i m hi hm
    rw [List.drop_eq_nil_of_le (by omega)]
    refine Ev.step (f := fun _ => some true) (fun k => ?_) (Ev.now _)
    rw [session_May.l0, if_neg (by omega)]
  | succ n ih =>
    intro i m hi hm
    have hw : wrap64 ((i : Int) + 1) = ((i + 1 : Nat) : Int) := by rw [w64 (by omega) (by omega)]; omega
    have hlt : (i : Int) < (zs.length : Int) := by omega
    have hf := askW_facts hm w
    have ha := nextAsk_ev hm w
    have hml := (marksS_spec hm).2.1
    rw [drop_ra zs i (by omega), goS]
    obtain ⟨a, hae⟩ : ∃ a, ra zs (i : Int) = a := ⟨_, rfl⟩
    have hae' : rd_T53 zs (i : Int) = a := hae
    rw [hae]
    generalize askW w ns m = b at ha hf
    refine Ev.step (f := fun k => (next_Ask.f k w ns m).bind fun b => if (!(b.1 == 0) || (!(b.2 == a.f0))) = true then some false else (next_Mark.f a.f1).bind fun t => if t = true then (if 0 ≤ a.f0 ∧ a.f0 < (m.length : Int) then session_May.l0 k ns w zs (m.set a.f0.toNat a.f1) ((i + 1 : Nat) : Int) else none) else some false) (fun k => by rw [session_May.l0, if_pos hlt, hae', hw]) ?_
    refine Ev.bind ha ?_
    by_cases c : (!(b.1 == 0) || (!(b.2 == a.f0))) = true
    · simp only [if_pos c]; exact Ev.now _
    · simp only [if_neg c, mark_eq, Option.bind_some]
      rw [Bool.or_eq_true, Bool.not_eq_true', Bool.not_eq_true', beq_eq_false_iff_ne, beq_eq_false_iff_ne] at c
      have e1 : b.2 = a.f0 := Classical.not_not.1 fun e => c (.inr e)
      by_cases d : markB a.f1 = true
      · have g : 0 ≤ a.f0 ∧ a.f0 < (m.length : Int) := by rw [← e1]; exact ⟨hf.1, by omega⟩
        simp only [if_pos d, if_pos g]
        exact ih (i + 1) _ (by omega) (marksS_set hm _ _ d)
      · simp only [if_neg d]; exact Ev.now _
def sessS (ns : List Nd) (w : Int) (zs : List An) : Bool := if (mayT ns && wayB w) = true then goS ns w zs (List.replicate ns.length 0) else false
theorem fresh_ev (ns : List Nd) (w : Int) : Ev (fun k => session_fresh.f k ns w) (mayT ns && wayB w) := by
  unfold session_fresh.f
  refine Ev.bind (trailMay_ev ns) ?_
  cases mayT ns with
  | false => simp only [if_neg Bool.false_ne_true, Bool.false_and]; exact Ev.now _
  | true => simp only [if_pos, Bool.true_and, way_eq]; exact Ev.now _
theorem sessMay_ev (ns : List Nd) (w : Int) (zs : List An) (hz : zs.length ≤ 9223372036854775806) : Ev (fun k => session_May.f k ns w zs) (sessS ns w zs) := by
  unfold session_May.f sessS
  refine Ev.bind (fresh_ev ns w) ?_
  by_cases c : (mayT ns && wayB w) = true
  · simp only [if_pos c]
    rw [Bool.and_eq_true] at c
    have := may_l0 ns w zs hz zs.length 0 (List.replicate ns.length 0) (by omega) (marksS_zero c.1)
    rw [List.drop_zero] at this
    exact this
  · simp only [if_neg c]; exact Ev.now _
/-- how many nodes have no mark -/
def zeros : List Int → Nat
  | [] => 0
  | x :: t => (if x = 0 then 1 else 0) + zeros t
theorem zeros_le : ∀ m : List Int, zeros m ≤ m.length
  | [] => Nat.le_refl _
  | x :: t => by
    have := zeros_le t
    rw [zeros, List.length_cons]
    split <;> omega
theorem zeros_set : ∀ (m : List Int) (i : Nat) (v : Int), v ≠ 0 → m.getD i 1 = 0 → zeros (m.set i v) + 1 = zeros m
  | [], i, v, _, h => by simp at h
  | x :: t, 0, v, hv, h => by
    have hx : x = 0 := by simpa using h
    show zeros (v :: t) + 1 = _
    rw [zeros, zeros, if_neg hv, if_pos hx]; omega
  | x :: t, i + 1, v, hv, h => by
    have := zeros_set t i v hv (by simpa using h)
    show zeros (x :: t.set i v) + 1 = _
    rw [zeros, zeros]; omega
theorem getD_rd (m : List Int) (i : Int) (h0 : 0 ≤ i) (h1 : i < (m.length : Int)) : m.getD i.toNat 1 = rd m i := by
  show _ = List.getD _ _ _
  rw [List.getD_eq_getElem?_getD, List.getD_eq_getElem?_getD, List.getElem?_eq_getElem (show i.toNat < m.length by omega)]; rfl
theorem goS_ask {ns : List Nd} {w : Int} {a : An} {t : List An} {m : List Int} (hm : marksS ns m = true) (h : goS ns w (a :: t) m = true) : 0 ≤ a.f0 ∧ a.f0 < (m.length : Int) ∧ rd m a.f0 = 0 ∧ markB a.f1 = true ∧ marksS ns (m.set a.f0.toNat a.f1) = true ∧ goS ns w t (m.set a.f0.toNat a.f1) = true := by
  obtain ⟨h1, h2, h3, h4⟩ := goS_step h
  have hf := askW_facts hm w
  have hl := (marksS_spec hm).2.1
  rw [h2] at hf
  exact ⟨hf.1, by omega, hf.2.2 h1, h3, marksS_set hm _ _ h3, h4⟩
theorem goS_len {ns : List Nd} {w : Int} : ∀ (zs : List An) (m : List Int), marksS ns m = true → goS ns w zs m = true → zs.length ≤ zeros m
  | [], m, _, _ => Nat.zero_le _
  | a :: t, m, hm, h => by
    obtain ⟨h0, h1, h2, h3, h4, h5⟩ := goS_ask hm h
    have ih := goS_len t _ h4 h5
    have hb := markB_spec h3
    have := zeros_set m a.f0.toNat a.f1 (by omega) (by rw [getD_rd m a.f0 h0 h1]; exact h2)
    rw [List.length_cons]; omega
theorem goS_max {ns : List Nd} {w : Int} {zs : List An} (hm : mayT ns = true) (h : goS ns w zs (List.replicate ns.length 0) = true) : zs.length ≤ ns.length := by
  have h1 := goS_len zs _ (marksS_zero hm) h
  have h2 := zeros_le (List.replicate ns.length 0)
  rw [List.length_replicate] at h2
  omega
theorem refSMay_l0 (ns : List Nd) (w : Int) (hw0 : wayB w = true) (zs : List An) (hz : zs.length ≤ 9223372036854775806) : ∀ (n i : Nat) (m : List Int), i + n = zs.length → marksS ns m = true → Ev (fun k => sleuthref12_SessionMay.l0 k m (i : Int) ns w zs) (goS ns w (zs.drop i) m) := by
  intro n
  induction n with
  | zero =>
    intro i m hi hm
    rw [List.drop_eq_nil_of_le (by omega)]
    refine Ev.step (f := fun _ => some true) (fun k => ?_) (Ev.now _)
    rw [sleuthref12_SessionMay.l0, if_neg (by omega)]
  | succ n ih =>
    intro i m hi hm
    have hw : wrap64 ((i : Int) + 1) = ((i + 1 : Nat) : Int) := by rw [w64 (by omega) (by omega)]; omega
    have hlt : (i : Int) < (zs.length : Int) := by omega
    have hi0 : (0 : Int) ≤ (i : Int) := by omega
    have hf := askW_facts hm w
    have ha := asksR_ev hm w hw0
    have hml := (marksS_spec hm).2.1
    rw [drop_ra zs i (by omega), goS]
    obtain ⟨a, hae⟩ : ∃ a, ra zs (i : Int) = a := ⟨_, rfl⟩
    have hae' : rd_T53 zs (i : Int) = a := hae
    rw [hae]
    generalize askW w ns m = b at ha hf
    refine Ev.step (f := fun k => (sleuthref12_asks.f k ns w m).bind fun bt => (if bt.1 = 0 then (if bt.2 = a.f0 then ((sleuthref12_markMay.f a.f1).bind fun t => (if t = true then (if 0 ≤ a.f0 then (if a.f0 < (m.length : Int) then (sleuthref12_SessionMay.l0 k (m.set a.f0.toNat a.f1) ((i + 1 : Nat) : Int) ns w zs) else (none)) else (none)) else (some false))) else (some false)) else (some false))) (fun k => by rw [sleuthref12_SessionMay.l0, if_pos hlt, if_pos hi0, hae', hw]) ?_
    refine Ev.bind ha ?_
    by_cases c1 : b.1 = 0
    · by_cases c2 : b.2 = a.f0
      · have c : ¬ (!(b.1 == 0) || (!(b.2 == a.f0))) = true := by rw [c1, c2]; simp
        simp only [if_pos c1, if_pos c2, if_neg c, markMay_eq, Option.bind_some]
        by_cases d : markB a.f1 = true
        · have g0 : 0 ≤ a.f0 := by rw [← c2]; exact hf.1
          have g1 : a.f0 < (m.length : Int) := by rw [← c2]; omega
          simp only [if_pos d, if_pos g0, if_pos g1]
          exact ih (i + 1) _ (by omega) (marksS_set hm _ _ d)
        · simp only [if_neg d]; exact Ev.now _
      · have c : (!(b.1 == 0) || (!(b.2 == a.f0))) = true := by rw [Bool.or_eq_true]; exact .inr (by simpa using c2)
        simp only [if_pos c1, if_neg c2, if_pos c]; exact Ev.now _
    · have c : (!(b.1 == 0) || (!(b.2 == a.f0))) = true := by rw [Bool.or_eq_true]; exact .inl (by simpa using c1)
      simp only [if_neg c1, if_pos c]; exact Ev.now _
theorem refSMay_ev (ns : List Nd) (hok : okN ns) (w : Int) (zs : List An) (hz : zs.length ≤ 9223372036854775806) : Ev (fun k => sleuthref12_SessionMay.f k ns w zs) (sessS ns w zs) := by
  unfold sleuthref12_SessionMay.f sessS
  refine Ev.bind (refTrail_ev ns hok) ?_
  cases hm : mayT ns with
  | false =>
    simp only [if_neg Bool.false_ne_true, Bool.false_and]
    refine Ev.step (f := fun _ => some false) (fun k => ?_) (Ev.now _)
    rw [sleuthref12_SessionMay.j0, if_pos rfl]
  | true =>
    have hlen := mayT_len hm
    simp only [if_pos, Bool.true_and, wayR_eq, Option.bind_some]
    by_cases d : wayB w = true
    · simp only [if_pos d]
      by_cases c : zs.length ≤ 512
      · rw [decide_eq_false (show ¬ (zs.length : Int) > 512 by omega)]
        have h := refSMay_l0 ns w d zs hz zs.length 0 (List.replicate ns.length 0) (by omega) (marksS_zero hm)
        rw [List.drop_zero] at h
        refine Ev.step (fun k => ?_) h
        rw [sleuthref12_SessionMay.j0, if_neg Bool.false_ne_true, if_pos (by omega), Int.toNat_natCast, if_pos (by omega)]; rfl
      · rw [decide_eq_true (show (zs.length : Int) > 512 by omega)]
        have e : goS ns w zs (List.replicate ns.length 0) = false := by
          rw [← Bool.not_eq_true]
          intro h
          have := goS_max hm h
          omega
        rw [e]
        refine Ev.step (f := fun _ => some false) (fun k => ?_) (Ev.now _)
        rw [sleuthref12_SessionMay.j0, if_pos rfl]
    · simp only [if_neg d]
      refine Ev.step (f := fun _ => some false) (fun k => ?_) (Ev.now _)
      rw [sleuthref12_SessionMay.j0, if_pos rfl]
end Go.Proofs.YtbnljapgnfmmoaaGreatDoor.G
end
section
-- Laid by the session's own driver gp.py over the kit's printer. Not trusted: Lean checks it.
namespace Go.Proofs.YtbnljapgnfmmoaaGreatDoor.G
open Go.RowKit Go.Proofs.YtbnljapgnfmmoaaGreatDoorW.PrintWords Go.Proofs.YtbnljapgnfmmoaaGreatDoorW.PrintLast Go.Proofs.YtbnljapgnfmmoaaGreatDoorW.PrintMore
attribute [local go_sem] max2_int min2_int max_two min_two max_three min_three max_four min_four   -- for this text's walks alone
set_option linter.unusedVariables false
set_option linter.unusedSimpArgs false

end Go.Proofs.YtbnljapgnfmmoaaGreatDoor.G
end
section
-- Laid by the session's own driver gp.py over the kit's printer. Not trusted: Lean checks it.
namespace Go.Proofs.YtbnljapgnfmmoaaGreatDoor.G
open Go.RowKit Go.Proofs.YtbnljapgnfmmoaaGreatDoorW.PrintWords Go.Proofs.YtbnljapgnfmmoaaGreatDoorW.PrintLast Go.Proofs.YtbnljapgnfmmoaaGreatDoorW.PrintMore
set_option maxHeartbeats 8000000
set_option maxRecDepth 100000
attribute [local go_sem] max2_int min2_int max_two min_two max_three min_three max_four min_four   -- for this text's walks alone
set_option linter.unusedVariables false
set_option linter.unusedSimpArgs false

def answer_Undo.f (k : Nat) (l0_0 : List (S66)) (a0_1 : Int) (l0_2 : List (S53)) : Option ((List (S66)) × Int × (List (S53)) × Int) := (session_May.f k l0_0 a0_1 l0_2).bind fun t486 => (if t486 = true then (if (l0_2.length : Int) = 0 then (some (([] : List (S66)), 0, ([] : List (S53)), 2201)) else ((session_Copy.f l0_0 a0_1 l0_2).bind fun bt487 => (if 0 ≤ (wrap64 ((bt487.2.2.length : Int) - 1)) then (if (wrap64 ((bt487.2.2.length : Int) - 1)) ≤ (bt487.2.2.length : Int) then (some (bt487.1, bt487.2.1, (bt487.2.2.take ((wrap64 ((bt487.2.2.length : Int) - 1)) : Int).toNat), 0)) else (none)) else (none)))) else (some (([] : List (S66)), 0, ([] : List (S53)), 2200)))
theorem answer_Undo.mono : ∀ a0 a1 a2 k, LeO (answer_Undo.f k a0 a1 a2) (answer_Undo.f (k + 1) a0 a1 a2) := by
 intro a0 a1 a2 k
 unfold answer_Undo.f
 repeat' first
  | (with_reducible exact session_May.mono _ _ _ _)
  | (with_reducible exact LeO.refl _)
  | (with_reducible exact LeO.none _)
  | (with_reducible refine LeO.ite ?_ ?_)
  | (with_reducible refine LeO.bind ?_ (fun _ => ?_))
  | exact session_May.mono _ _ _ _
  | exact LeO.none _
  | refine LeO.ite ?_ ?_
  | refine LeO.bind ?_ (fun _ => ?_)
theorem answer_Undo.calls (k : Nat) (A0_0 : Option Addr) (c0_0 : Nat) (l0_0 : List (S66)) (a0_1 : Int) (A0_2 : Option Addr) (c0_2 : Nat) (l0_2 : List (S53)) (r1 : List (S66)) (r2 : Int) (r3 : List (S53)) (r4 : Int) (w : World) (hr0_0 : Kd.C k66 w A0_0 l0_0.length l0_0) (hc0_0 : l0_0.length ≤ c0_0) (hr0_2 : Kd.C k53 w A0_2 l0_2.length l0_2) (hc0_2 : l0_2.length ≤ c0_2) (h : answer_Undo.f k l0_0 a0_1 l0_2 = some (r1, r2, r3, r4)) (hG : GOK w) :
 Calls Tryz.prog 10 #[.agg #[.slice A0_0 l0_0.length c0_0, .int .i64 a0_1, .slice A0_2 l0_2.length c0_2]] w fun e w' => ∃ v0_ v2_ : Value, e = .returned (.tuple #[.agg #[v0_, .int .i64 r2, v2_], .int .i64 r4]) ∧ Kd.S k66 66 w' w.heap.size (fun _ => True) v0_ r1 ∧ Kd.R k53 53 w' w.heap.size (fun _ => True) v2_ r3 ∧ Below w.heap.size w w' := by
 have hu25 := Tryz.underlying25
 have HR0_0 := a_ hr0_0
 have HC0_0 := a_ hc0_0
 clear hr0_0 hc0_0
 have HR0_2 := a_ hr0_2
 have HC0_2 := a_ hc0_2
 clear hr0_2 hc0_2
 have HB := a_ (Below.refl w.heap.size w)
 have H := h; unfold answer_Undo.f at H
 clear h
 replace H := Option.bind_eq_some_iff.mp H
 obtain ⟨t486, A20, H⟩ := H
 try dsimp only at H
 have A2 := a_ A20
 clear A20
 by_cases c3 : t486 = true
 case neg =>
  replace c3 := Bool.eq_false_iff.mpr c3
  subst c3
  rw [if_neg (show ¬ (false = true) by decide)] at H
  simp only [Option.some.injEq, Prod.mk.injEq] at H
  obtain ⟨rfl, rfl, rfl, rfl⟩ := H
  go_enter Tryz.func10, Tryz.ntmps10
  go_wp2_with (first | ((with_reducible refine gate_dst (N := 1) rfl ?_); refine boxE_ 1 #[.slice A0_0 l0_0.length c0_0, .int .i64 a0_1, .slice A0_2 l0_2.length c0_2] 25 ?_; intro gb484 hg w33 hbox hb; have BK484 := a_ (hbox); have GW484 := a_ ((gE_ hg : w.heap.size ≤ gb484)); have GE484 := a_ ((gE_ hg : w.heap.size ≤ gb484)); replace HB := a_ (below_step hB_ hb); clear hb hbox hg) | ((with_reducible refine gate_dst (N := 2) rfl ?_); refine boxE_ 2 #[.slice none 0 0, .int .i64 0, .slice none 0 0] 25 ?_; intro gb485 hg w34 hbox hb; have BK485 := a_ (hbox); have GW485 := a_ ((gE_ hg : w.heap.size ≤ gb485)); have GE485 := a_ ((gE_ hg : w.heap.size ≤ gb485)); replace HB := a_ (below_step hC_ hb); have NB484_485 := a_ ((bL_ BK484.out hg : gb484 ≠ gb485)); have NB485_484 := a_ ((bG_ BK484.out hg : gb485 ≠ gb484)); replace BK484 := a_ (bB_ BK484.out hb); clear hb hbox hg; have hnb35 := NB484_485.out; have hnc35 := NB485_484.out; obtain ⟨hcz36_0, hcz36_1, hcz36_2, hfz36_0, hfz36_1, hfz36_2⟩ := bx3_ BK484.out) | ((with_reducible refine gate_callee (f := 21) rfl ?_); refine goesL_ (some 7) rfl rfl Tryz.func21 (by kernel_rfl) rfl #[.agg #[.slice A0_0 l0_0.length c0_0, .int .i64 a0_1, .slice A0_2 l0_2.length c0_2]] rfl hL_ ?_; (with_reducible refine (session_May.calls k _ _ l0_0 a0_1 _ _ l0_2 false _ ?side1 ?side2 ?side3 ?side4 A2.out (by first | exact hG | exact GOK.below hG hC_)).mono ?_); (case side1 => exact cB_ HR0_0.out); (case side2 => exact HC0_0.out); (case side3 => exact cB_ HR0_2.out); (case side4 => exact HC0_2.out); rintro e w37 ⟨rfl, hb⟩; refine ⟨_, rfl, ?_⟩; replace BK484 := a_ (bB_ BK484.out hb); replace BK485 := a_ (bB_ BK485.out hb); replace HB := a_ (below_step hC_ hb); (try clear hb); (try clear hb2); (try clear hk); (try clear hi); obtain ⟨hcz38_0, hcz38_1, hcz38_2, hfz38_0, hfz38_1, hfz38_2⟩ := bx3_ BK485.out))
  refine bodyPost_ret (results_ct rfl _ _ gb485 25 #[.slice none 0 0, .int .i64 0, .slice none 0 0] (0, 0) _ rfl (bP_ (bP_ (bP_ (hK_ BK485.out)))) Tryz.underlying25 rfl (by kernel_rfl)) rfl ?_
  exact ⟨_, _, hV_, by first | exact Kd.S_nil _ _ _ _ _ | exact Kd.N_nil _ _ _ _ _ | exact Kd.V_nil _ _ _ _ _ | exact Kd.Q_nil _ _ _ _ _ | exact Kd.R_nil _ _ _ _ _, by first | exact Kd.R_nil _ _ _ _ _ | exact Kd.N_nil _ _ _ _ _ | exact Kd.V_nil _ _ _ _ _ | exact Kd.Q_nil _ _ _ _ _ | exact Kd.S_nil _ _ _ _ _, hC_⟩

 subst c3
 rw [if_pos rfl] at H
 by_cases c4 : (l0_2.length : Int) = 0
 case pos =>
  rw [if_pos c4] at H
  have c4b0 : ((l0_2.length : Int) == 0) = true := beq_iff_eq.mpr c4
  have c4b1 : ((l0_2.length : Int) != 0) = false := bne_eq_false_iff_eq.mpr c4
  clear c4
  simp only [Option.some.injEq, Prod.mk.injEq] at H
  obtain ⟨rfl, rfl, rfl, rfl⟩ := H
  go_enter Tryz.func10, Tryz.ntmps10
  go_wp2_with (first | ((with_reducible refine gate_dst (N := 1) rfl ?_); refine boxE_ 1 #[.slice A0_0 l0_0.length c0_0, .int .i64 a0_1, .slice A0_2 l0_2.length c0_2] 25 ?_; intro gb484 hg w5 hbox hb; have BK484 := a_ (hbox); have GW484 := a_ ((gE_ hg : w.heap.size ≤ gb484)); have GE484 := a_ ((gE_ hg : w.heap.size ≤ gb484)); replace HB := a_ (below_step hB_ hb); clear hb hbox hg) | ((with_reducible refine gate_dst (N := 2) rfl ?_); refine boxE_ 2 #[.slice none 0 0, .int .i64 0, .slice none 0 0] 25 ?_; intro gb485 hg w6 hbox hb; have BK485 := a_ (hbox); have GW485 := a_ ((gE_ hg : w.heap.size ≤ gb485)); have GE485 := a_ ((gE_ hg : w.heap.size ≤ gb485)); replace HB := a_ (below_step hC_ hb); have NB484_485 := a_ ((bL_ BK484.out hg : gb484 ≠ gb485)); have NB485_484 := a_ ((bG_ BK484.out hg : gb485 ≠ gb484)); replace BK484 := a_ (bB_ BK484.out hb); clear hb hbox hg; have hnb7 := NB484_485.out; have hnc7 := NB485_484.out; obtain ⟨hcz8_0, hcz8_1, hcz8_2, hfz8_0, hfz8_1, hfz8_2⟩ := bx3_ BK484.out) | ((with_reducible refine gate_callee (f := 21) rfl ?_); refine goesL_ (some 7) rfl rfl Tryz.func21 (by kernel_rfl) rfl #[.agg #[.slice A0_0 l0_0.length c0_0, .int .i64 a0_1, .slice A0_2 l0_2.length c0_2]] rfl hL_ ?_; (with_reducible refine (session_May.calls k _ _ l0_0 a0_1 _ _ l0_2 true _ ?side1 ?side2 ?side3 ?side4 A2.out (by first | exact hG | exact GOK.below hG hC_)).mono ?_); (case side1 => exact cB_ HR0_0.out); (case side2 => exact HC0_0.out); (case side3 => exact cB_ HR0_2.out); (case side4 => exact HC0_2.out); rintro e w9 ⟨rfl, hb⟩; refine ⟨_, rfl, ?_⟩; replace BK484 := a_ (bB_ BK484.out hb); replace BK485 := a_ (bB_ BK485.out hb); replace HB := a_ (below_step hC_ hb); (try clear hb); (try clear hb2); (try clear hk); (try clear hi); obtain ⟨hcz10_0, hcz10_1, hcz10_2, hfz10_0, hfz10_1, hfz10_2⟩ := bx3_ BK484.out; obtain ⟨hcz11_0, hcz11_1, hcz11_2, hfz11_0, hfz11_1, hfz11_2⟩ := bx3_ BK485.out))
  refine bodyPost_ret (results_ct rfl _ _ gb485 25 #[.slice none 0 0, .int .i64 0, .slice none 0 0] (0, 0) _ rfl (bP_ (bP_ (bP_ (hK_ BK485.out)))) Tryz.underlying25 rfl (by kernel_rfl)) rfl ?_
  exact ⟨_, _, hV_, by first | exact Kd.S_nil _ _ _ _ _ | exact Kd.N_nil _ _ _ _ _ | exact Kd.V_nil _ _ _ _ _ | exact Kd.Q_nil _ _ _ _ _ | exact Kd.R_nil _ _ _ _ _, by first | exact Kd.R_nil _ _ _ _ _ | exact Kd.N_nil _ _ _ _ _ | exact Kd.V_nil _ _ _ _ _ | exact Kd.Q_nil _ _ _ _ _ | exact Kd.S_nil _ _ _ _ _, hC_⟩
 rw [if_neg c4] at H
 have c4b0 : ((l0_2.length : Int) == 0) = false := beq_eq_false_iff_ne.mpr c4
 have c4b1 : ((l0_2.length : Int) != 0) = true := bne_iff_ne.mpr c4
 have c4b2 : ¬ (l0_2 = []) := fun h_ => c4 (by rw [h_]; rfl)
 replace H := Option.bind_eq_some_iff.mp H
 obtain ⟨⟨t487, t490, t491⟩, A120, H⟩ := H
 try dsimp only at H
 have A12 := a_ A120
 clear A120
 obtain ⟨ji13, hji13⟩ : ∃ j_ : Int, (wrap64 ((t491.length : Int) - 1)) = j_ := ⟨_, rfl⟩
 replace H : (if 0 ≤ (ji13) then (if (ji13) ≤ (t491.length : Int) then (some (t487, t490, (t491.take ((ji13) : Int).toNat), 0)) else (none)) else (none)) = some (r1, r2, r3, r4) := by first | (rw [hji13] at H; exact H) | (simp only [hji13] at H ⊢; exact H)
 (try rw [hji13] at A2)
 (try rw [hji13] at A12)
 have hji13w : (IntKind.i64.wrap ((t491.length : Int) - 1)) = ji13 := (i64_w _).trans hji13
 replace H := ifI_ H; obtain ⟨c14, H⟩ := H
 have c14b0 := eq_true c14
 have c14b1 : decide (0 ≤ (ji13)) = true := decide_eq_true c14
 clear c14
 replace H := ifI_ H; obtain ⟨c15, H⟩ := H
 have c15b0 := eq_true c15
 have c15b1 : decide ((ji13) ≤ (t491.length : Int)) = true := decide_eq_true c15
 clear c15
 obtain ⟨y495, hy495⟩ : ∃ y_ : List (S53), y_ = (t491.take ((ji13) : Int).toNat) := ⟨_, rfl⟩
 replace H : (some (t487, t490, y495, 0)) = some (r1, r2, r3, r4) := by first | (rw [hy495]; with_reducible exact H) | (have H2_ := (Option.bind_some _ _).symm.trans H; rw [hy495]; with_reducible exact H2_) | (have H2_ := (Option.bind_some _ _).symm.trans H; with_reducible exact H2_) | with_reducible exact H | (rw [hy495]; exact H) | exact H
 have Ny495 := a_ hy495
 clear hy495
 simp only [Option.some.injEq, Prod.mk.injEq] at H
 obtain ⟨rfl, rfl, rfl, rfl⟩ := H
 go_enter Tryz.func10, Tryz.ntmps10
 go_wp2_with (first | ((with_reducible refine gate_dst (N := 1) rfl ?_); refine boxE_ 1 #[.slice A0_0 l0_0.length c0_0, .int .i64 a0_1, .slice A0_2 l0_2.length c0_2] 25 ?_; intro gb484 hg w16 hbox hb; have BK484 := a_ (hbox); have GW484 := a_ ((gE_ hg : w.heap.size ≤ gb484)); have GE484 := a_ ((gE_ hg : w.heap.size ≤ gb484)); replace HB := a_ (below_step hB_ hb); clear hb hbox hg) | ((with_reducible refine gate_dst (N := 2) rfl ?_); refine boxE_ 2 #[.slice none 0 0, .int .i64 0, .slice none 0 0] 25 ?_; intro gb485 hg w17 hbox hb; have BK485 := a_ (hbox); have GW485 := a_ ((gE_ hg : w.heap.size ≤ gb485)); have GE485 := a_ ((gE_ hg : w.heap.size ≤ gb485)); replace HB := a_ (below_step hC_ hb); have NB484_485 := a_ ((bL_ BK484.out hg : gb484 ≠ gb485)); have NB485_484 := a_ ((bG_ BK484.out hg : gb485 ≠ gb484)); replace BK484 := a_ (bB_ BK484.out hb); clear hb hbox hg; have hnb18 := NB484_485.out; have hnc18 := NB485_484.out; obtain ⟨hcz19_0, hcz19_1, hcz19_2, hfz19_0, hfz19_1, hfz19_2⟩ := bx3_ BK484.out) | ((with_reducible refine gate_callee (f := 21) rfl ?_); refine goesL_ (some 7) rfl rfl Tryz.func21 (by kernel_rfl) rfl #[.agg #[.slice A0_0 l0_0.length c0_0, .int .i64 a0_1, .slice A0_2 l0_2.length c0_2]] rfl hL_ ?_; (with_reducible refine (session_May.calls k _ _ l0_0 a0_1 _ _ l0_2 true _ ?side1 ?side2 ?side3 ?side4 A2.out (by first | exact hG | exact GOK.below hG hC_)).mono ?_); (case side1 => exact cB_ HR0_0.out); (case side2 => exact HC0_0.out); (case side3 => exact cB_ HR0_2.out); (case side4 => exact HC0_2.out); rintro e w20 ⟨rfl, hb⟩; refine ⟨_, rfl, ?_⟩; replace BK484 := a_ (bB_ BK484.out hb); replace BK485 := a_ (bB_ BK485.out hb); replace HB := a_ (below_step hC_ hb); (try clear hb); (try clear hb2); (try clear hk); (try clear hi); obtain ⟨hcz21_0, hcz21_1, hcz21_2, hfz21_0, hfz21_1, hfz21_2⟩ := bx3_ BK484.out) | ((with_reducible refine gate_callee (f := 24) rfl ?_); refine goesL_ (some 17) rfl rfl Tryz.func24 (by kernel_rfl) rfl #[.agg #[.slice A0_0 l0_0.length c0_0, .int .i64 a0_1, .slice A0_2 l0_2.length c0_2]] rfl hL_ ?_; (with_reducible refine (session_Copy.calls _ _ l0_0 a0_1 _ _ l0_2 t487 t490 t491 _ ?side1 ?side2 ?side3 ?side4 A12.out).mono ?_); (case side1 => exact cB_ HR0_0.out); (case side2 => exact HC0_0.out); (case side3 => exact cB_ HR0_2.out); (case side4 => exact HC0_2.out); rintro e w22 ⟨v488, v492, rfl, ho0, ho1, hb⟩; refine ⟨_, rfl, ?_⟩; have HO489 := a_ (Kd.S_lower ho0 (below_size hC_)); have HO493 := a_ (Kd.R_lower ho1 (below_size hC_)); replace BK484 := a_ (bB_ BK484.out hb); replace BK485 := a_ (bB_ BK485.out hb); replace HB := a_ (below_step hC_ hb); (try clear hb); (try clear hb2); (try clear hk); (try clear hi); (try clear ho0); (try clear ho1)) | ((with_reducible refine gate_dst (N := 4) rfl ?_); refine boxE_ 4 #[.slice none 0 0, .int .i64 0, .slice none 0 0] 25 ?_; intro gb494 hg w23 hbox hb; replace HO489 := a_ (Kd.S_below (by (with_reducible repeat (first | apply Kd.S_alloc | apply Kd.S_drewN | apply Kd.S_drew)); exact HO489.out) hb); replace HO493 := a_ (Kd.R_below (hR_ HO493.out) hb); have BK494 := a_ (hbox); have GW494 := a_ ((gE_ hg : w.heap.size ≤ gb494)); have GE494 := a_ ((gE_ hg : w.heap.size ≤ gb494)); replace HB := a_ (below_step hC_ hb); have NB484_494 := a_ ((bL_ BK484.out hg : gb484 ≠ gb494)); have NB494_484 := a_ ((bG_ BK484.out hg : gb494 ≠ gb484)); replace BK484 := a_ (bB_ BK484.out hb); have NB485_494 := a_ ((bL_ BK485.out hg : gb485 ≠ gb494)); have NB494_485 := a_ ((bG_ BK485.out hg : gb494 ≠ gb485)); replace BK485 := a_ (bB_ BK485.out hb); clear hb hbox hg; obtain ⟨Ao24, co24, eo24⟩ := Kd.S_slice HO489.out; subst eo24; have hnb25 := NB494_484.out; have hnc25 := NB484_494.out; have hnb26 := NB494_485.out; have hnc26 := NB485_494.out; obtain ⟨hcz27_0, hcz27_1, hcz27_2, hfz27_0, hfz27_1, hfz27_2⟩ := bx3_ BK494.out; obtain ⟨Ao28, co28, eo28⟩ := Kd.R_slice HO493.out; subst eo28) | ((with_reducible refine gate_store (t := 25) (p := 4) rfl ?_); refine store_event (t := 25) (p := 4) (v := ?vo_w29) (w1 := (((w23.setCell ⟨gb494, 0, none⟩ (.slice Ao24 t487.length co24)).setCell ⟨gb494, 1, none⟩ (.int .i64 t490)).setCell ⟨gb494, 2, none⟩ (.slice Ao28 t491.length co28))) ?hg ?ho ?hn ?hr ?_; (case ho => rfl); (case hg => rfl); (case hn => rfl); (case hr => first | (go_simp; done) | (go_simp; rfl)); intro w29 hw; replace HO489 : Aside0 (Kd.S k66 66 w29 w.heap.size (fun _ => True) (.slice Ao24 t487.length co24) t487) := ⟨(by rw [hw]; exact (by (with_reducible repeat (first | apply Kd.S_alloc | apply Kd.S_drewN | apply Kd.S_drew)); exact Kd.S_mono (sF_ (sF_ (sF_ (Kd.S_types HO489.out BK494.out (by decide))))) (fun _ hk => trivial)))⟩; replace HO493 : Aside0 (Kd.R k53 53 w29 w.heap.size (fun _ => True) (.slice Ao28 t491.length co28) t491) := ⟨(by rw [hw]; exact (by (with_reducible repeat (first | apply Kd.R_alloc | apply Kd.R_drewN | apply Kd.R_drew)); exact Kd.R_mono (rF_ (rF_ (rF_ (Kd.R_types HO493.out BK494.out (by decide))))) (fun _ hk => trivial)))⟩; replace BK484 : Aside0 (w29.heap[gb484]? = some (.cells #[.slice A0_0 l0_0.length c0_0, .int .i64 a0_1, .slice A0_2 l0_2.length c0_2] 25 (0, 0))) := ⟨(by rw [hw]; exact (bF_ (bF_ (bF_ (hK_ BK484.out) NB484_494.out) NB484_494.out) NB484_494.out))⟩; replace BK485 : Aside0 (w29.heap[gb485]? = some (.cells #[.slice none 0 0, .int .i64 0, .slice none 0 0] 25 (0, 0))) := ⟨(by rw [hw]; exact (bF_ (bF_ (bF_ (hK_ BK485.out) NB485_494.out) NB485_494.out) NB485_494.out))⟩; replace BK494 : Aside0 (w29.heap[gb494]? = some (.cells #[.slice Ao24 t487.length co24, .int .i64 t490, .slice Ao28 t491.length co28] 25 (0, 0))) := ⟨(by rw [hw]; exact (bP_ (bP_ (bP_ (hK_ BK494.out)))))⟩; replace HB : Aside0 (Below w.heap.size w w29) := ⟨(by rw [hw]; exact hC_)⟩; clear hw; obtain ⟨hcz30_0, hcz30_1, hcz30_2, hfz30_0, hfz30_1, hfz30_2⟩ := bx3_ BK494.out; have q31 : ((ji13) : Int) ≤ ((t491.length : Int) : Int) := of_decide_eq_true hA_; obtain ⟨i031, hi031, _, hsz31, _⟩ := info_parts info53; have hcut31 := cut_to (P := Tryz.prog) 23 53 .i64 Tryz.underlying23 hi031 Ao28 t491.length co28 (ji13) (of_decide_eq_true hA_) q31 (Kd.R_reads' HO493.out).2.1; have hr31 := Kd.R_take (m := ((ji13) : Int).toNat) HO493.out (by omega); have hy31 : y495.length = ((ji13) : Int).toNat := (by rw [Ny495.out, List.length_take]; omega); rw [← Ny495.out] at hr31; rw [← hy31] at hr31 hcut31; clear hy31 hi031 hsz31 HO493; have HO497 := a_ hr31; clear hr31; replace q31 := eq_true q31; obtain ⟨hcz32_0, hcz32_1, hcz32_2, hfz32_0, hfz32_1, hfz32_2⟩ := bx3_ BK485.out))
 refine bodyPost_ret (results_ct rfl _ _ gb485 25 #[.slice Ao24 t487.length co24, .int .i64 t490, .slice Ao28 y495.length co28] (0, 0) _ rfl (bP_ (bP_ (bP_ (bF_ (hK_ BK485.out) NB485_494.out)))) Tryz.underlying25 rfl (by kernel_rfl)) rfl ?_
 exact ⟨_, _, by first | rfl | (simp [errW_none, errW_some] <;> rfl) | (simp only [← hji13]; first | rfl | (simp [errW_none, errW_some] <;> rfl)) | (simp [*, errW_none, errW_some] <;> rfl), by (with_reducible repeat (first | apply Kd.S_alloc | apply Kd.S_drewN | apply Kd.S_drew)); exact Kd.S_mono (sF_ (sF_ (sF_ (Kd.S_far (p := ⟨gb494, 2, none⟩) (Kd.S_types (Kd.S_types HO489.out BK494.out (by decide)) BK485.out (by decide)) (fun _ hk => hk.1.2) (.slice Ao28 y495.length co28))))) (fun _ hk => trivial), by (with_reducible repeat (first | apply Kd.R_alloc | apply Kd.R_drewN | apply Kd.R_drew)); exact Kd.R_mono (rF_ (rF_ (rF_ (Kd.R_far (p := ⟨gb494, 2, none⟩) (Kd.R_types (Kd.R_types HO497.out BK494.out (by decide)) BK485.out (by decide)) (fun _ hk => hk.1.2) (.slice Ao28 y495.length co28))))) (fun _ hk => trivial), hC_⟩
end Go.Proofs.YtbnljapgnfmmoaaGreatDoor.G
end
section
/- What package answer answers, as plain functions. -/
namespace Go.Proofs.YtbnljapgnfmmoaaGreatDoor.G
open Go.RowKit Go.Proofs.YtbnljapgnfmmoaaGreatDoorW.PrintWords Go.Proofs.YtbnljapgnfmmoaaGreatDoorW.PrintLast Go.Proofs.YtbnljapgnfmmoaaGreatDoorW.PrintMore
set_option linter.unusedVariables false
set_option linter.unusedSimpArgs false
/-- the marks behind answers -/
def finM : List An → List Int → List Int
  | [], m => m
  | a :: t, m => finM t (m.set a.f0.toNat a.f1)
theorem goS_fin {ns : List Nd} {w : Int} : ∀ (zs : List An) (m : List Int), marksS ns m = true → goS ns w zs m = true → goA zs m = some (finM zs m) ∧ marksS ns (finM zs m) = true
  | [], m, hm, _ => ⟨rfl, hm⟩
  | a :: t, m, hm, h => by
    obtain ⟨h0, h1, h2, h3, h4, h5⟩ := goS_ask hm h
    obtain ⟨i1, i2⟩ := goS_fin t _ h4 h5
    refine ⟨?_, i2⟩
    rw [goA, decide_eq_true h0, decide_eq_true h1, h3, Bool.and_self, Bool.and_self, if_pos rfl]
    exact i1
theorem goS_app {ns : List Nd} {w : Int} : ∀ (zs t : List An) (m : List Int), goS ns w zs m = true → goS ns w (zs ++ t) m = goS ns w t (finM zs m)
  | [], t, m, _ => rfl
  | a :: zs, t, m, h => by
    obtain ⟨h1, h2, h3, h4⟩ := goS_step h
    rw [List.cons_append, goS, if_neg (by rw [h1, h2]; simp), if_pos h3]
    exact goS_app zs t _ h4
def lastM' (ns : List Nd) (zs : List An) : List Int := finM zs (List.replicate ns.length 0)
theorem sess_spec {ns : List Nd} {w : Int} {zs : List An} (h : sessS ns w zs = true) : mayT ns = true ∧ wayB w = true ∧ goS ns w zs (List.replicate ns.length 0) = true ∧ zs.length ≤ ns.length ∧ marksS ns (lastM' ns zs) = true ∧ stepF ns w zs = ((askW w ns (lastM' ns zs)).1, (askW w ns (lastM' ns zs)).2, 0) := by
  unfold sessS at h
  by_cases c : (mayT ns && wayB w) = true
  · rw [if_pos c] at h
    rw [Bool.and_eq_true] at c
    have hlen := mayT_len c.1
    have hmax := goS_max c.1 h
    obtain ⟨h1, h2⟩ := goS_fin zs _ (marksS_zero c.1) h
    refine ⟨c.1, c.2, h, hmax, h2, ?_⟩
    have e : marksF ns zs = (lastM' ns zs, 0) := by
      unfold marksF
      rw [c.1, decide_eq_true (show zs.length ≤ 512 by omega), Bool.and_self, if_pos rfl, h1]; rfl
    unfold stepF
    rw [e, if_pos rfl, if_pos c.2]
  · rw [if_neg c] at h; cases h
theorem sess_put {ns : List Nd} {w : Int} {zs : List An} {mk : Int} (h : sessS ns w zs = true) (ha : (askW w ns (lastM' ns zs)).1 = 0) (hm : markB mk = true) : sessS ns w (zs ++ [⟨(askW w ns (lastM' ns zs)).2, mk⟩]) = true := by
  obtain ⟨h1, h2, h3, _, _, _⟩ := sess_spec h
  unfold sessS
  rw [h1, h2, Bool.and_self, if_pos rfl, goS_app zs _ _ h3]
  show goS ns w [_] (lastM' ns zs) = true
  rw [goS, if_neg (by rw [ha]; simp), if_pos hm]
  rfl
def putF (ns : List Nd) (w : Int) (zs : List An) (mk : Int) : List Nd × Int × List An × Int :=
  if sessS ns w zs = true then (if markB mk = true then (if (askW w ns (lastM' ns zs)).1 = 0 then (ns, w, zs ++ [⟨(askW w ns (lastM' ns zs)).2, mk⟩], 0) else ([], 0, [], 2201)) else ([], 0, [], 2200)) else ([], 0, [], 2200)
theorem fit_of {ns : List Nd} {zs : List An} (hok : okN ns) (hz : zs.length ≤ 8796093022208) : sc_fit ns zs = true := by
  unfold sc_fit
  rw [decide_eq_true (show ns.length ≤ 2513169434916 by have := hok.1; omega), Bool.true_and, decide_eq_true hz, Bool.true_and]
  exact List.all_eq_true.2 fun x hx => decide_eq_true (by have := hok.2 x hx; omega)
theorem put_ev (ns : List Nd) (hok : okN ns) (w : Int) (zs : List An) (hz : zs.length ≤ 9223372036854775806) (mk : Int) : Ev (fun k => answer_Put.f k ns w zs mk) (putF ns w zs mk) := by
  unfold answer_Put.f putF
  refine Ev.bind (sessMay_ev ns w zs hz) ?_
  by_cases c : sessS ns w zs = true
  · simp only [if_pos c, mark_eq, Option.bind_some]
    by_cases d : markB mk = true
    · rw [if_pos d, d]
      obtain ⟨h1, h2, h3, h4, h5, h6⟩ := sess_spec c
      have hlen := mayT_len h1
      have hfit : sc_fit ns zs = true := fit_of hok (by omega)
      have hlt : zs.length < 8796093022208 := by omega
      refine Ev.step (f := fun k => (next_Step.f k ns w zs).bind fun bt207 => (if bt207.1 = 0 then ((session_Copy.f ns w zs).bind fun bt211 => (if bt211.2.2.length < 8796093022208 then (some (bt211.1, bt211.2.1, (bt211.2.2 ++ [(⟨bt207.2.1, mk⟩ : An)]), 0)) else (none))) else (some (([] : List Nd), 0, ([] : List An), 2201)))) (fun k => by rw [answer_Put.j0, Bool.not_true, if_neg Bool.false_ne_true]) ?_
      have hs := step_ev ns w zs
      rw [h6] at hs
      refine Ev.bind hs ?_
      unfold session_Copy.f
      by_cases e : (askW w ns (lastM' ns zs)).1 = 0
      · simp only [if_pos e, if_pos hfit, Option.bind_some, if_pos hlt]; exact Ev.now _
      · simp only [if_neg e]; exact Ev.now _
    · rw [if_neg d]
      rw [Bool.not_eq_true] at d
      rw [d]
      refine Ev.step (f := fun _ => some ([], 0, [], 2200)) (fun k => by rw [answer_Put.j0, Bool.not_false, if_pos rfl]) (Ev.now _)
  · simp only [if_neg c]
    refine Ev.step (f := fun _ => some ([], 0, [], 2200)) (fun k => by rw [answer_Put.j0, if_pos rfl]) (Ev.now _)
def undoF (ns : List Nd) (w : Int) (zs : List An) : List Nd × Int × List An × Int :=
  if sessS ns w zs = true then (if zs.length = 0 then ([], 0, [], 2201) else (ns, w, zs.take (zs.length - 1), 0)) else ([], 0, [], 2200)
theorem undo_ev (ns : List Nd) (hok : okN ns) (w : Int) (zs : List An) (hz : zs.length ≤ 9223372036854775806) : Ev (fun k => answer_Undo.f k ns w zs) (undoF ns w zs) := by
  unfold answer_Undo.f undoF
  refine Ev.bind (sessMay_ev ns w zs hz) ?_
  by_cases c : sessS ns w zs = true
  · simp only [if_pos c]
    obtain ⟨h1, h2, h3, h4, h5, h6⟩ := sess_spec c
    have hlen := mayT_len h1
    have hfit : sc_fit ns zs = true := fit_of hok (by omega)
    by_cases d : zs.length = 0
    · have d' : (zs.length : Int) = 0 := by omega
      simp only [if_pos d, if_pos d']; exact Ev.now _
    · have d' : ¬ (zs.length : Int) = 0 := by omega
      have hw : wrap64 ((zs.length : Int) - 1) = ((zs.length - 1 : Nat) : Int) := by rw [w64 (by omega) (by omega)]; omega
      have g0 : (0 : Int) ≤ ((zs.length - 1 : Nat) : Int) := by omega
      have g1 : ((zs.length - 1 : Nat) : Int) ≤ (zs.length : Int) := by omega
      unfold session_Copy.f
      simp only [if_neg d, if_neg d', if_pos hfit, Option.bind_some, hw, if_pos g0, if_pos g1, Int.toNat_natCast]
      exact Ev.now _
  · simp only [if_neg c]; exact Ev.now _
end Go.Proofs.YtbnljapgnfmmoaaGreatDoor.G
end
