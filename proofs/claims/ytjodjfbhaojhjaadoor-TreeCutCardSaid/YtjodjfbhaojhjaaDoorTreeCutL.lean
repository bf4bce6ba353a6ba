/- The law TreeCut of package tree, as a plain statement about what the program computes. -/
import Derived.Test.YtjodjfbhaojhjaaDoorU9
import Derived.Test.YtjodjfbhaojhjaaDoorG25
namespace Go.Proofs.YtjodjfbhaojhjaaDoor.G
open Go.RowKit Go.Proofs.YtjodjfbhaojhjaaDoorW.PrintWords Go.Proofs.YtjodjfbhaojhjaaDoorW.PrintLast Go.Proofs.YtjodjfbhaojhjaaDoorW.PrintMore
set_option linter.unusedVariables false
set_option linter.unusedSimpArgs false
def cutN (p : Int) : Nd := ⟨0, p, [], (⟨#[95]⟩ : ByteArray)⟩
theorem eqS_cut (p : Int) : eqS (cutN p) = true := by
  have h : mayS (⟨#[95]⟩ : ByteArray) = true := by kernel_rfl
  unfold eqS cutN
  simp only [h]
  rfl
theorem rn_old (ns : List Nd) (x : Nd) (j : Nat) (h : j < ns.length) : rn (ns ++ [x]) (j : Int) = rn ns (j : Int) := by
  rw [rn_eq _ j (by rw [List.length_append]; omega), rn_eq ns j h, List.getElem_append_left h]
theorem rn_new (ns : List Nd) (x : Nd) : rn (ns ++ [x]) (ns.length : Int) = x := by
  rw [rn_eq _ ns.length (by rw [List.length_append]; simp), List.getElem_append_right (Nat.le_refl _)]
  simp
theorem may_more {ns : List Nd} (h : mayT ns = true) (hl : ns.length < 512) (p : Nat) (hp : p < ns.length) : mayT (ns ++ [cutN (p : Int)]) = true := by
  obtain ⟨h0, h1⟩ := mayT_at h
  unfold mayT
  rw [Bool.and_eq_true, decide_eq_true_iff]
  refine ⟨by rw [List.length_append]; omega, List.all_eq_true.2 fun i hi => ?_⟩
  have hi := List.mem_range.1 hi
  rw [List.length_append, List.length_singleton] at hi
  rcases Nat.lt_or_ge i ns.length with c | c
  · rw [rn_old ns _ i c]; exact h1 i c
  · obtain rfl : i = ns.length := by omega
    rw [rn_new]
    unfold nextS
    rw [eqS_cut, Bool.and_true, Bool.and_eq_true, Bool.or_eq_true, decide_eq_true_iff, decide_eq_true_iff, decide_eq_true_iff]
    refine ⟨by omega, .inl ?_⟩
    show 0 ≤ (p : Int) ∧ (p : Int) < (ns.length : Int)
    omega
theorem pa_old (ns : List Nd) (x : Nd) (j : Nat) (h : j < ns.length) : pa (ns ++ [x]) j = pa ns j := by unfold pa; rw [rn_old ns x j h]
theorem dsc_old {ns : List Nd} (h : mayT ns = true) (x : Nd) (hm : mayT (ns ++ [x]) = true) (k : Nat) : ∀ n j : Nat, j < n → j < ns.length → dsc (ps (ns ++ [x])) k j = dsc (ps ns) k j := by
  intro n
  induction n with
  | zero => intro j hn; omega
  | succ n ih =>
    intro j hn hj
    have hl : (ns ++ [x]).length = ns.length + 1 := by rw [List.length_append]; rfl
    rcases Nat.eq_zero_or_pos j with rfl | h0
    · rw [dsc_zero (par_of hm) k (by rw [ps_len]; omega), dsc_zero (par_of h) k (by rw [ps_len]; omega)]
    · have hp := mayT_pa h j hj
      rw [dsc_step (par_of hm) k (by rw [ps_len]; omega) h0, dsc_step (par_of h) k (by rw [ps_len]; omega) h0, ps_at _ j (by omega), ps_at ns j hj, pa_old ns x j hj, ih _ (by omega) (by omega)]
theorem cnt_more {ns : List Nd} (h : mayT ns = true) (hl : ns.length < 512) (p k : Nat) (hp : p < ns.length) (hk : k < ns.length) :
    cntD (ns ++ [cutN (p : Int)]) k = cntD ns k + (if dsc (ps ns) k p = true then 1 else 0) := by
  have hm := may_more h hl p hp
  have hlen : (ns ++ [cutN (p : Int)]).length = ns.length + 1 := by rw [List.length_append]; rfl
  unfold cntD
  rw [hlen, sumTo]
  congr 1
  · exact sumTo_congr fun j hj => by unfold indD; rw [dsc_old h _ hm k (j + 1) j (by omega) hj]
  · unfold indD
    have e : pa (ns ++ [cutN (p : Int)]) ns.length = (p : Int) := by unfold pa; rw [rn_new]; rfl
    rw [dsc_step (par_of hm) k (by rw [ps_len]; omega) (by have := mayT_len h; omega), ps_at _ _ (by omega), e, Int.toNat_natCast, dsc_old h _ hm k (p + 1) p (by omega) hp, beq_false_of_ne (by omega), Bool.false_or]
theorem cut_l0 {ns : List Nd} (h : mayT ns = true) (kk : Nat) (a b : Int) : ∀ (n j : Nat) (q : Bool), j < n → j < ns.length → (b = wrap64 (a + if (q || dsc (ps ns) kk j) = true then 1 else 0)) → a = wrap64 a → Ev (fun k => sleuthlaw13_TreeCut.l0 k ns (kk : Int) a 0 b 0 q (j : Int)) true := by
  intro n
  induction n with
  | zero => intro j q hn; omega
  | succ n ih =>
    intro j q hn hj hb ha
    have hp := mayT_pa h j hj
    have nx : Ev (fun k => sleuthlaw13_TreeCut.l0 k ns (kk : Int) a 0 b 0 (q || (j : Int) == (kk : Int)) (rn ns (j : Int)).f1) true := by
      rcases hp with ⟨h0, h1⟩ | ⟨h0, h1, h2⟩
      · have e1 : (rn ns (j : Int)).f1 = -1 := h1
        rw [e1]
        subst h0
        rw [dsc_zero (par_of h) kk (by rw [ps_len]; omega)] at hb
        have e2 : (((0 : Nat) : Int) == (kk : Int)) = ((0 : Nat) == kk) := by
          by_cases c : 0 = kk
          · rw [beq_iff_eq.2 c, beq_iff_eq.2 (show ((0 : Nat) : Int) = (kk : Int) by omega)]
          · rw [beq_eq_false_iff_ne.2 c, beq_eq_false_iff_ne.2 (show ((0 : Nat) : Int) ≠ (kk : Int) by omega)]
        rw [e2]
        generalize (q || ((0 : Nat) == kk)) = z at hb
        refine Ev.step (f := fun _ => some true) (fun k => ?_) (Ev.now _)
        rw [sleuthlaw13_TreeCut.l0, if_neg (by omega)]
        cases z with
        | true =>
          rw [if_pos rfl] at hb
          simp only [if_pos, sleuthlaw0_Num.f, Option.bind_some, some_eq, ← hb]
          rfl
        | false =>
          rw [if_neg Bool.false_ne_true, Int.add_zero, ← ha] at hb
          simp only [if_neg Bool.false_ne_true, if_pos, sleuthlaw0_Num.f, Option.bind_some, some_eq, hb]
          rfl
      · have e1 : (rn ns (j : Int)).f1 = ((pa ns j).toNat : Int) := by show pa ns j = _; omega
        rw [e1]
        refine ih (pa ns j).toNat _ (by omega) (by omega) ?_ ha
        rw [dsc_step (par_of h) kk (by rw [ps_len]; omega) h0, ps_at ns j hj] at hb
        rw [hb, Bool.or_assoc]
        have e2 : ((j : Int) == (kk : Int)) = (j == kk) := by
          by_cases c : j = kk
          · rw [beq_iff_eq.2 c, beq_iff_eq.2 (show (j : Int) = (kk : Int) by omega)]
          · rw [beq_eq_false_iff_ne.2 c, beq_eq_false_iff_ne.2 (show (j : Int) ≠ (kk : Int) by omega)]
        rw [e2]
    refine Ev.step (f := fun k => sleuthlaw13_TreeCut.l0 k ns (kk : Int) a 0 b 0 (q || (j : Int) == (kk : Int)) (rn ns (j : Int)).f1) (fun k => ?_) nx
    rw [sleuthlaw13_TreeCut.l0, if_pos (by omega)]
    cases q with
    | true => rw [if_pos rfl, if_pos (by omega), if_pos (by omega), Bool.true_or]
    | false => rw [if_neg Bool.false_ne_true, if_pos (by omega), if_pos (by omega), Bool.false_or]
theorem treeCut_pure (l0 : List Nd) (a1 a2 : Int) (h0 : fineN l0) (h1 : (Lit.int .i64 a1).wf = true) (h2 : (Lit.int .i64 a2).wf = true) : ∃ k, sleuthlaw13_TreeCut.f k l0 a1 a2 = some true := by
  refine Ev.rounds (g := fun k => sleuthlaw13_TreeCut.f k l0 a1 a2) ?_
  have hok := h0.ok
  unfold sleuthlaw13_TreeCut.f
  refine Ev.bind awake_ev ?_
  simp only [if_pos]
  refine Ev.bind (refTrail_ev l0 hok) ?_
  have out : Ev (fun k => sleuthlaw13_TreeCut.j0 k l0 a1 a2 true) true := Ev.step (f := fun _ => some true) (fun k => by rw [sleuthlaw13_TreeCut.j0, if_pos rfl]) (Ev.now _)
  cases hm : mayT l0 with
  | false => simp only [if_neg Bool.false_ne_true]; exact out
  | true =>
    simp only [if_pos]
    have hlen := mayT_len hm
    by_cases c : l0.length = 512
    · have e : ((l0.length : Int) == 512) = true := beq_iff_eq.2 (by omega)
      rw [e]; exact out
    · have e : ((l0.length : Int) == 512) = false := beq_eq_false_iff_ne.2 (by omega)
      rw [e]
      obtain ⟨e1, kk, hk, ek⟩ := umod a1 l0.length hlen.1 hlen.2
      obtain ⟨_, p, hp, ep⟩ := umod a2 l0.length hlen.1 hlen.2
      have hm2 := may_more hm (by omega) p hp
      have hl2 : (l0 ++ [cutN (p : Int)]).length = l0.length + 1 := by rw [List.length_append]; rfl
      have s1 : sizeS l0 (kk : Int) = (cntD l0 kk, 0) := by unfold sizeS; rw [if_pos (inT_of hm (by omega) (by omega)), Int.toNat_natCast]
      have s2 : sizeS (l0 ++ [cutN (p : Int)]) (kk : Int) = (cntD (l0 ++ [cutN (p : Int)]) kk, 0) := by unfold sizeS; rw [if_pos (inT_of hm2 (by omega) (by omega)), Int.toNat_natCast]
      refine Ev.step (f := fun k => (tree_Size.f k l0 (kk : Int)).bind fun bt303 => (tree_Size.f k (l0 ++ [cutN (p : Int)]) (kk : Int)).bind fun bt305 => sleuthlaw13_TreeCut.l0 k l0 (kk : Int) bt303.1 bt303.2 bt305.1 bt305.2 false (p : Int)) (fun k => ?_) ?_
      · rw [sleuthlaw13_TreeCut.j0, if_neg Bool.false_ne_true, if_neg (by omega), e1, ek, ep, if_neg (by omega)]; rfl
      · refine Ev.bind (size_ev l0 (kk : Int)) (Ev.bind (size_ev _ (kk : Int)) ?_)
        rw [s1, s2]
        have hc := cntD_range l0 kk
        have hcm := cnt_more hm (by omega) p kk hp hk
        refine cut_l0 hm kk _ _ (p + 1) p false (by omega) hp ?_ ?_
        · rw [Bool.false_or, w64 (by split <;> omega) (by split <;> omega)]; exact hcm
        · rw [w64 (by omega) (by omega)]
end Go.Proofs.YtjodjfbhaojhjaaDoor.G
