/- The law TreeSums of package tree, as a plain statement about what the program computes. -/
import Derived.Test.YtjodjfbhaojhjaaDoorU9
import Derived.Test.YtjodjfbhaojhjaaDoorTreeKids
import Derived.Test.YtjodjfbhaojhjaaDoorG25
namespace Go.Proofs.YtjodjfbhaojhjaaDoor.G
open Go.RowKit Go.Proofs.YtjodjfbhaojhjaaDoorW.PrintWords Go.Proofs.YtjodjfbhaojhjaaDoorW.PrintLast Go.Proofs.YtjodjfbhaojhjaaDoorW.PrintMore
set_option linter.unusedVariables false
set_option linter.unusedSimpArgs false
def isK (ns : List Nd) (p k : Nat) : Prop := (p : Int) < (k : Int) ∧ (rn ns (k : Int)).f1 = (p : Int)
instance (ns : List Nd) (p k : Nat) : Decidable (isK ns p k) := by unfold isK; exact inferInstance
def kd (ns : List Nd) (p k j : Nat) : Int := if isK ns p k then indD ns k j else 0
theorem ind_low {ns : List Nd} (h : mayT ns = true) {p j : Nat} (hj : j < ns.length) (c : j < p) : indD ns p j = 0 := by
  unfold indD
  rw [dsc_last (par_of h) (by rw [ps_len]; exact hj) c, if_neg Bool.false_ne_true]
theorem ind_self (ns : List Nd) (p : Nat) : indD ns p p = 1 := by unfold indD; rw [dsc_self, if_pos rfl]
theorem ind_up {ns : List Nd} (h : mayT ns = true) {k j : Nat} (hj : j < ns.length) (h0 : 0 < j) (c : ¬ j = k) : indD ns k j = indD ns k (pa ns j).toNat := by
  unfold indD
  rw [dsc_step (par_of h) k (by rw [ps_len]; exact hj) h0, ps_at ns j hj, beq_false_of_ne c, Bool.false_or]
theorem ind_kids {ns : List Nd} (h : mayT ns = true) (p : Nat) : ∀ (n j : Nat), j < n → j < ns.length → indD ns p j = (if j = p then 1 else 0) + sumTo (fun k => kd ns p k j) ns.length := by
  intro n
  induction n with
  | zero => intro j hn; omega
  | succ n ih =>
    intro j hn hj
    rcases Nat.lt_trichotomy j p with c | c | c
    · rw [ind_low h hj c, if_neg (by omega), sumTo_zero (fun k hk => ?_)]; · rfl
      unfold kd
      by_cases d : isK ns p k
      · rw [if_pos d, ind_low h hj (by unfold isK at d; omega)]
      · rw [if_neg d]
    · subst c
      rw [ind_self, if_pos rfl, sumTo_zero (fun k hk => ?_)]; · rfl
      unfold kd
      by_cases d : isK ns j k
      · rw [if_pos d, ind_low h hj (by unfold isK at d; omega)]
      · rw [if_neg d]
    · have hp := mayT_pa h j hj
      obtain ⟨q, hq⟩ : ∃ q : Nat, pa ns j = (q : Int) := ⟨(pa ns j).toNat, by omega⟩
      have hqj : q < j := by omega
      have e : (pa ns j).toNat = q := by omega
      have hu : ∀ k, ¬ j = k → indD ns k j = indD ns k q := fun k hk => by rw [ind_up h hj (by omega) hk, e]
      rw [hu p (by omega), if_neg (by omega), ih q (by omega) (by omega)]
      have := sumTo_one (f := fun k => kd ns p k j) (g := fun k => kd ns p k q) (i := j) (v := if q = p then 1 else 0) hj (fun k hk => by
        show kd ns p k j = _
        by_cases d : k = j
        · subst d
          rw [if_pos rfl]
          unfold kd
          rw [ind_self, ind_low h (show q < ns.length by omega) hqj]
          by_cases g : isK ns p k
          · rw [if_pos g, if_pos g, if_pos (by unfold isK at g; have g2 : pa ns k = (p : Int) := g.2; omega)]; rfl
          · rw [if_neg g, if_neg g, if_neg (fun hh => g ⟨by omega, by show pa ns k = _; omega⟩)]; rfl
        · rw [if_neg d]
          unfold kd
          rw [hu k (fun hh => d hh.symm)])
      rw [this]
      omega
theorem sumTo_swap (f : Nat → Nat → Int) (m : Nat) : ∀ n : Nat, sumTo (fun j => sumTo (fun k => f k j) m) n = sumTo (fun k => sumTo (fun j => f k j) n) m
  | 0 => (sumTo_zero (f := fun k => sumTo (fun j => f k j) 0) (fun _ _ => rfl)).symm
  | n + 1 => by
    rw [sumTo, sumTo_swap f m n, ← sumTo_add]
    exact sumTo_congr fun k _ => rfl
def kc (ns : List Nd) (p k : Nat) : Int := if isK ns p k then cntD ns k else 0
theorem cnt_kids {ns : List Nd} (h : mayT ns = true) (p : Nat) (hp : p < ns.length) : cntD ns p = 1 + sumTo (kc ns p) ns.length := by
  have e : cntD ns p = sumTo (fun j => (if j = p then (1 : Int) else 0) + sumTo (fun k => kd ns p k j) ns.length) ns.length := sumTo_congr fun j hj => ind_kids h p (j + 1) j (by omega) hj
  rw [e, sumTo_add, sum_one_at p ns.length, if_pos hp, sumTo_swap]
  congr 1
  refine sumTo_congr fun k _ => ?_
  unfold kc kd
  by_cases d : isK ns p k
  · simp only [if_pos d]; rfl
  · simp only [if_neg d]
    exact sumTo_zero fun _ _ => rfl
theorem ind_zero {ns : List Nd} (h : mayT ns = true) : ∀ (n j : Nat), j < n → j < ns.length → indD ns 0 j = 1 := by
  intro n
  induction n with
  | zero => intro j hn; omega
  | succ n ih =>
    intro j hn hj
    have hp := mayT_pa h j hj
    by_cases c : j = 0
    · subst c; exact ind_self ns 0
    · rw [ind_up h hj (by omega) c, ih _ (by omega) (by omega)]
theorem cnt_zero {ns : List Nd} (h : mayT ns = true) : cntD ns 0 = (ns.length : Int) := by
  have e : cntD ns 0 = sumTo (fun _ => (1 : Int)) ns.length := sumTo_congr fun j hj => ind_zero h (j + 1) j (by omega) hj
  rw [e, sumTo_const]
def lsum (f : Int → Int) : List Int → Int
  | [] => 0
  | x :: l => f x + lsum f l
theorem lsum_append (f : Int → Int) : ∀ a b : List Int, lsum f (a ++ b) = lsum f a + lsum f b
  | [], b => by rw [List.nil_append, lsum]; omega
  | x :: a, b => by rw [List.cons_append, lsum, lsum, lsum_append f a b]; omega
theorem lsum_nonneg (f : Int → Int) : ∀ a : List Int, (∀ x ∈ a, 0 ≤ f x) → 0 ≤ lsum f a
  | [], _ => Int.le_refl _
  | x :: a, h => by
    have := lsum_nonneg f a fun y hy => h y (List.mem_cons_of_mem _ hy)
    have := h x (List.mem_cons_self ..)
    rw [lsum]; omega
def cI (ns : List Nd) (x : Int) : Int := cntD ns x.toNat
theorem lsum_kids (ns : List Nd) (p : Nat) : ∀ n : Nat, lsum (cI ns) (kidsTo ns (p : Int) n) = sumTo (kc ns p) n
  | 0 => rfl
  | n + 1 => by
    rw [kidsTo, sumTo]
    by_cases c : isK ns p n
    · have c' : (p : Int) < (n : Int) ∧ (rn ns (n : Int)).f1 = (p : Int) := c
      rw [if_pos c', lsum_append, lsum_kids ns p n, kc, if_pos c]
      show _ + (cntD ns ((n : Int)).toNat + 0) = _
      rw [Int.toNat_natCast]; omega
    · have c' : ¬ ((p : Int) < (n : Int) ∧ (rn ns (n : Int)).f1 = (p : Int)) := c
      rw [if_neg c', lsum_kids ns p n, kc, if_neg c]; omega
theorem wsucc (i : Nat) (h : i ≤ 100000) : wrap64 ((i : Int) + 1) = ((i + 1 : Nat) : Int) := by rw [w64 (by omega) (by omega)]; omega
theorem wpred (i : Nat) (h : i ≤ 100000) : wrap64 ((i : Int) - 1) = (i : Int) - 1 := w64 (by omega) (by omega)
theorem wfit (x : Int) (h : 0 ≤ x ∧ x ≤ 100000) : wrap64 x = x := w64 (by omega) (by omega)
theorem sums_l1 {ns : List Nd} (h : mayT ns = true) (a : Nat) (ha : a < ns.length) (L : List Int) (hL : L = kidsTo ns (a : Int) ns.length) (hnext : Ev (fun k => sleuthlaw13_TreeSums.l0 k ns ((a + 1 : Nat) : Int)) true) :
    ∀ n i : Nat, i + n = L.length → Ev (fun k => sleuthlaw13_TreeSums.l1 k ns (a : Int) (cntD ns a) L (1 + lsum (cI ns) (L.take i)) (i : Int)) true := by
  have hlen := mayT_len h
  have hck := cnt_kids h a ha
  have hls := lsum_kids ns a ns.length
  rw [← hL] at hls
  have hcr := cntD_range ns a
  have hnn : ∀ x, 0 ≤ cI ns x := fun x => (cntD_range ns x.toNat).1
  have hkl := kidsTo_len ns (a : Int) ns.length
  rw [← hL] at hkl
  intro n
  induction n with
  | zero =>
    intro i hi
    obtain rfl : i = L.length := by omega
    have hw := wsucc a (by omega)
    refine Ev.step (f := fun k => sleuthlaw13_TreeSums.l0 k ns ((a + 1 : Nat) : Int)) (fun k => ?_) hnext
    rw [sleuthlaw13_TreeSums.l1, if_neg (by omega), List.take_length, if_pos (by omega), hw]
    by_cases c : (a : Int) = 0
    · obtain rfl : a = 0 := by omega
      rw [if_pos c, if_pos (cnt_zero h)]
    · rw [if_neg c]
  | succ n ih =>
    intro i hi
    have hx : rd L (i : Int) ∈ kidsTo ns (a : Int) ns.length := by
      rw [← hL]
      show List.getD _ _ _ ∈ _
      rw [Int.toNat_natCast, List.getD_eq_getElem?_getD, List.getElem?_eq_getElem (show i < L.length by omega)]
      exact List.getElem_mem _
    obtain ⟨j, hj, ej, hja, _⟩ := (kidsTo_mem ns (a : Int) _ ns.length).1 hx
    have htk : L.take (i + 1) = L.take i ++ [rd L (i : Int)] := by
      rw [List.take_add_one, List.getElem?_eq_getElem (show i < L.length by omega)]
      show _ ++ [_] = _ ++ [List.getD _ _ _]
      rw [Int.toNat_natCast, List.getD_eq_getElem?_getD, List.getElem?_eq_getElem (show i < L.length by omega)]; rfl
    have hsum : lsum (cI ns) (L.take (i + 1)) = lsum (cI ns) (L.take i) + cntD ns j := by
      rw [htk, lsum_append, ej]
      show _ + (cntD ns ((j : Int)).toNat + 0) = _
      rw [Int.toNat_natCast]; omega
    have hge : 0 ≤ lsum (cI ns) (L.take i) := lsum_nonneg _ _ fun x _ => hnn x
    have hrest : lsum (cI ns) L = lsum (cI ns) (L.take (i + 1)) + lsum (cI ns) (L.drop (i + 1)) := by rw [← lsum_append, List.take_append_drop]
    have hge2 : 0 ≤ lsum (cI ns) (L.drop (i + 1)) := lsum_nonneg _ _ fun x _ => hnn x
    have hcj := cntD_range ns j
    have q1 : (i : Int) < (L.length : Int) := by omega
    have q2 : (0 : Int) ≤ (i : Int) := by omega
    have g1 : ¬ (j : Int) ≤ (a : Int) := by omega
    have hsz : sizeS ns (j : Int) = (cntD ns j, 0) := by unfold sizeS; rw [if_pos (inT_of h (by omega) (by omega)), Int.toNat_natCast]
    have q4 : ∀ _ : (i : Int) > 0, ¬ (rd L ((i : Int) - 1)) ≥ (j : Int) := fun c => by
      have hpw := kidsTo_lt ns (a : Int) ns.length
      rw [← hL] at hpw
      have := (List.pairwise_iff_getElem.1 hpw) (i - 1) i (by omega) (by omega) (by omega)
      have e1 : rd L ((i : Int) - 1) = L[i - 1]'(by omega) := by
        show List.getD _ _ _ = _
        rw [show ((i : Int) - 1).toNat = i - 1 by omega, List.getD_eq_getElem?_getD, List.getElem?_eq_getElem (show i - 1 < L.length by omega)]; rfl
      have e2 : (j : Int) = L[i]'(by omega) := by
        rw [← ej]
        show List.getD _ _ _ = _
        rw [Int.toNat_natCast, List.getD_eq_getElem?_getD, List.getElem?_eq_getElem (show i < L.length by omega)]; rfl
      omega
    have q5 : ∀ _ : (i : Int) > 0, 0 ≤ (i : Int) - 1 ∧ (i : Int) - 1 < (L.length : Int) := fun c => by omega
    have hih := ih (i + 1) (by omega)
    have hi9 : i ≤ 100000 := by omega
    have hv : 0 ≤ 1 + lsum (cI ns) (L.take i) + cntD ns j ∧ 1 + lsum (cI ns) (L.take i) + cntD ns j ≤ 100000 := by omega
    have hw := wsucc i hi9
    have hw3 := wpred i hi9
    have hw2 : wrap64 (1 + lsum (cI ns) (L.take i) + cntD ns j) = 1 + lsum (cI ns) (L.take (i + 1)) := by rw [wfit _ hv, hsum]; exact Int.add_assoc ..
    refine Ev.step (f := fun k => (tree_Size.f k ns (j : Int)).bind fun bt379 => ((sleuthlaw0_Num.f bt379.2).bind fun t381 => (if t381 = 0 then (if (j : Int) ≤ (a : Int) then (none) else (if (i : Int) > 0 then (if 0 ≤ (i : Int) - 1 then (if (i : Int) - 1 < (L.length : Int) then (if (rd L ((i : Int) - 1)) ≥ (j : Int) then (none) else (sleuthlaw13_TreeSums.l1 k ns (a : Int) (cntD ns a) L (wrap64 (1 + lsum (cI ns) (L.take i) + bt379.1)) ((i + 1 : Nat) : Int))) else (none)) else (none)) else (sleuthlaw13_TreeSums.l1 k ns (a : Int) (cntD ns a) L (wrap64 (1 + lsum (cI ns) (L.take i) + bt379.1)) ((i + 1 : Nat) : Int)))) else (none)))) (fun k => ?_) ?_
    · rw [sleuthlaw13_TreeSums.l1, if_pos q1, if_pos q2, ej, hw, hw3]
    · refine Ev.bind (size_ev ns (j : Int)) ?_
      rw [hsz]
      simp only [sleuthlaw0_Num.f, Option.bind_some, if_pos, if_neg g1, hw2]
      by_cases c : (i : Int) > 0
      · simp only [if_pos c, if_pos (q5 c).1, if_pos (q5 c).2, if_neg (q4 c)]
        exact hih
      · simp only [if_neg c]
        exact hih
theorem sums_l0 (ns : List Nd) (h : mayT ns = true) : ∀ n i : Nat, i + n = ns.length → Ev (fun k => sleuthlaw13_TreeSums.l0 k ns (i : Int)) true := by
  have hlen := mayT_len h
  intro n
  induction n with
  | zero =>
    intro i hi
    refine Ev.step (f := fun k => sleuthlaw13_TreeSums.j1 k ns (i : Int) false) (fun k => by rw [sleuthlaw13_TreeSums.l0, if_neg (by omega)]) ?_
    exact Ev.step (f := fun _ => some true) (fun k => by rw [sleuthlaw13_TreeSums.j1, if_neg Bool.false_ne_true]) (Ev.now _)
  | succ n ih =>
    intro i hi
    refine Ev.step (f := fun k => sleuthlaw13_TreeSums.j1 k ns (i : Int) (decide ((i : Int) < 40))) (fun k => by rw [sleuthlaw13_TreeSums.l0, if_pos (by omega)]) ?_
    by_cases c : (i : Int) < 40
    · rw [decide_eq_true c]
      have hin := inT_of h (show 0 ≤ (i : Int) by omega) (show (i : Int) < (ns.length : Int) by omega)
      refine Ev.step (f := fun k => (tree_Size.f k ns (i : Int)).bind fun bt367 => ((tree_Kids.f k ns (i : Int)).bind fun bt369 => ((sleuthlaw0_Num.f bt367.2).bind fun t373 => (if t373 = 0 then ((sleuthlaw0_Num.f bt369.2).bind fun t374 => (sleuthlaw13_TreeSums.j2 k ns (i : Int) bt367.1 bt367.2 bt369.1 bt369.2 (t374 != 0))) else (sleuthlaw13_TreeSums.j2 k ns (i : Int) bt367.1 bt367.2 bt369.1 bt369.2 true))))) (fun k => by rw [sleuthlaw13_TreeSums.j1, if_pos rfl]) ?_
      refine Ev.bind (size_ev ns (i : Int)) (Ev.bind (kids_ev ns (i : Int)) ?_)
      have e1 : sizeS ns (i : Int) = (cntD ns i, 0) := by unfold sizeS; rw [if_pos hin, Int.toNat_natCast]
      have e2 : kidsS ns (i : Int) = (kidsTo ns (i : Int) ns.length, 0) := by unfold kidsS; rw [if_pos hin]
      rw [e1, e2]
      simp only [sleuthlaw0_Num.f, Option.bind_some, if_pos]
      rw [show ((0 : Int) != 0) = false from rfl]
      refine Ev.step (f := fun k => sleuthlaw13_TreeSums.l1 k ns (i : Int) (cntD ns i) (kidsTo ns (i : Int) ns.length) 1 0) (fun k => by rw [sleuthlaw13_TreeSums.j2, if_neg Bool.false_ne_true]) ?_
      exact sums_l1 h i (by omega) _ rfl (ih (i + 1) (by omega)) (kidsTo ns (i : Int) ns.length).length 0 (by omega)
    · rw [decide_eq_false c]
      exact Ev.step (f := fun _ => some true) (fun k => by rw [sleuthlaw13_TreeSums.j1, if_neg Bool.false_ne_true]) (Ev.now _)
theorem treeSums_pure (l0 : List Nd) (h0 : fineN l0) : ∃ k, sleuthlaw13_TreeSums.f k l0 = some true := by
  refine Ev.rounds (g := fun k => sleuthlaw13_TreeSums.f k l0) ?_
  unfold sleuthlaw13_TreeSums.f
  refine Ev.bind awake_ev ?_
  simp only [if_pos]
  cases hm : mayT l0 with
  | true => exact sums_l0 l0 hm l0.length 0 (by omega)
  | false =>
    have hin : ∀ a, inT l0 a = false := fun a => by unfold inT; rw [hm, Bool.false_and]
    by_cases c : (0 : Int) < (l0.length : Int)
    · refine Ev.step (f := fun k => sleuthlaw13_TreeSums.j1 k l0 0 true) (fun k => by rw [sleuthlaw13_TreeSums.l0, if_pos c]; rfl) ?_
      refine Ev.step (f := fun k => (tree_Size.f k l0 0).bind fun bt367 => ((tree_Kids.f k l0 0).bind fun bt369 => ((sleuthlaw0_Num.f bt367.2).bind fun t373 => (if t373 = 0 then ((sleuthlaw0_Num.f bt369.2).bind fun t374 => (sleuthlaw13_TreeSums.j2 k l0 0 bt367.1 bt367.2 bt369.1 bt369.2 (t374 != 0))) else (sleuthlaw13_TreeSums.j2 k l0 0 bt367.1 bt367.2 bt369.1 bt369.2 true))))) (fun k => by rw [sleuthlaw13_TreeSums.j1, if_pos rfl]) ?_
      refine Ev.bind (size_ev l0 0) (Ev.bind (kids_ev l0 0) ?_)
      have e1 : sizeS l0 0 = (0, 1300) := by unfold sizeS; rw [hin, if_neg Bool.false_ne_true]
      have e2 : kidsS l0 0 = ([], 1300) := by unfold kidsS; rw [hin, if_neg Bool.false_ne_true]
      rw [e1, e2]
      simp only [sleuthlaw0_Num.f, Option.bind_some, if_neg (show ¬ (1300 : Int) = 0 by omega)]
      refine Ev.step (f := fun k => (sleuthref12_TrailMay.f k l0).bind fun t377 => some (!t377)) (fun k => by simp only [sleuthlaw13_TreeSums.j2, sleuthlaw0_Num.f, Option.bind_some, if_pos]) ?_
      refine Ev.bind (refTrail_ev l0 h0.ok) ?_
      rw [hm]; exact Ev.now _
    · refine Ev.step (f := fun k => sleuthlaw13_TreeSums.j1 k l0 0 false) (fun k => by rw [sleuthlaw13_TreeSums.l0, if_neg c]) ?_
      exact Ev.step (f := fun _ => some true) (fun k => by rw [sleuthlaw13_TreeSums.j1, if_neg Bool.false_ne_true]) (Ev.now _)
end Go.Proofs.YtjodjfbhaojhjaaDoor.G
