/- Parts of this proof, one behind the other: TreeMath, TreeVals. -/
import Derived.Test.YtgcdbpnflchobaaDoorTQ
import Derived.Test.YtgcdbpnflchobaaDoorGK
import Derived.Test.YtgcdbpnflchobaaDoorGD
section
namespace Go.Proofs.YtgcdbpnflchobaaDoor.G
open Go.RowKit
set_option linter.unusedVariables false
set_option linter.unusedSimpArgs false

/-! rows of parents: plain facts, no program in sight -/
def Par (ps : List Int) : Prop := ∀ i, i < ps.length → (i = 0 ∧ ps.getD i (-1) = -1) ∨ (0 < i ∧ 0 ≤ ps.getD i (-1) ∧ ps.getD i (-1) < i)
def upB (ps : List Int) (p : Nat) : Nat → Nat → Bool
  | 0, _ => false
  | n + 1, j => j == p || (decide (0 ≤ ps.getD j (-1)) && upB ps p n (ps.getD j (-1)).toNat)
/-- does j stand below p (or is it p)? -/
def dsc (ps : List Int) (p j : Nat) : Bool := upB ps p (j + 1) j
theorem upB_fuel {ps : List Int} (hp : Par ps) (p : Nat) : ∀ n j m, j < ps.length → j < n → j < m → upB ps p n j = upB ps p m j := by
  intro n
  induction n with
  | zero => intro j m _ h; omega
  | succ n ih =>
    intro j m hj hn hm
    cases m with
    | zero => omega
    | succ m =>
      rw [upB, upB]
      by_cases c : 0 ≤ ps.getD j (-1)
      · have := hp j hj
        rw [ih (ps.getD j (-1)).toNat m (by omega) (by omega) (by omega)]
      · rw [decide_eq_false c, Bool.false_and, Bool.false_and]
theorem dsc_step {ps : List Int} (hp : Par ps) (p : Nat) {j : Nat} (hj : j < ps.length) (h0 : 0 < j) : dsc ps p j = (j == p || dsc ps p (ps.getD j (-1)).toNat) := by
  have := hp j hj
  unfold dsc
  rw [upB, decide_eq_true (show 0 ≤ ps.getD j (-1) by omega), Bool.true_and, upB_fuel hp p j _ ((ps.getD j (-1)).toNat + 1) (by omega) (by omega) (by omega)]
theorem dsc_zero {ps : List Int} (hp : Par ps) (p : Nat) (h : 0 < ps.length) : dsc ps p 0 = (0 == p) := by
  have := hp 0 h
  unfold dsc
  rw [upB, decide_eq_false (show ¬ 0 ≤ ps.getD 0 (-1) by omega), Bool.false_and, Bool.or_false]
theorem dsc_self {ps : List Int} (p : Nat) : dsc ps p p = true := by unfold dsc; rw [upB, beq_self_eq_true]; rfl
theorem dsc_le {ps : List Int} (hp : Par ps) {p : Nat} : ∀ (n j : Nat), j < n → j < ps.length → dsc ps p j = true → p ≤ j := by
  intro n
  induction n with
  | zero => intro j h; omega
  | succ n ih =>
    intro j hn hj h
    rcases Nat.eq_zero_or_pos j with rfl | h0
    · rw [dsc_zero hp p hj] at h
      have : 0 = p := beq_iff_eq.1 h
      omega
    · rw [dsc_step hp p hj h0, Bool.or_eq_true, beq_iff_eq] at h
      have h1 := hp j hj
      rcases h with rfl | h
      · exact Nat.le_refl _
      · have := ih _ (by omega) (by omega) h
        omega
theorem dsc_last {ps : List Int} (hp : Par ps) {p j : Nat} (hj : j < ps.length) (h : j < p) : dsc ps p j = false := by
  cases c : dsc ps p j with
  | false => rfl
  | true => have := dsc_le hp (j + 1) j (by omega) hj c; omega
def sumTo (f : Nat → Int) : Nat → Int
  | 0 => 0
  | n + 1 => sumTo f n + f n
theorem sumTo_congr {f g : Nat → Int} : ∀ {n : Nat}, (∀ j, j < n → f j = g j) → sumTo f n = sumTo g n
  | 0, _ => rfl
  | n + 1, h => by rw [sumTo, sumTo, sumTo_congr (fun j hj => h j (by omega)), h n (by omega)]
theorem sumTo_le {f g : Nat → Int} : ∀ {n : Nat}, (∀ j, j < n → f j ≤ g j) → sumTo f n ≤ sumTo g n
  | 0, _ => Int.le_refl _
  | n + 1, h => by
    have := sumTo_le (f := f) (g := g) (n := n) (fun j hj => h j (by omega))
    have := h n (by omega)
    rw [sumTo, sumTo]; omega
theorem sumTo_nonneg {f : Nat → Int} : ∀ {n : Nat}, (∀ j, j < n → 0 ≤ f j) → 0 ≤ sumTo f n
  | 0, _ => Int.le_refl _
  | n + 1, h => by
    have := sumTo_nonneg (f := f) (n := n) (fun j hj => h j (by omega))
    have := h n (by omega)
    rw [sumTo]; omega
theorem sumTo_add {f g : Nat → Int} : ∀ {n : Nat}, sumTo (fun j => f j + g j) n = sumTo f n + sumTo g n
  | 0 => rfl
  | n + 1 => by rw [sumTo, sumTo, sumTo, sumTo_add]; omega
theorem sumTo_zero {f : Nat → Int} : ∀ {n : Nat}, (∀ j, j < n → f j = 0) → sumTo f n = 0
  | 0, _ => rfl
  | n + 1, h => by rw [sumTo, sumTo_zero (fun j hj => h j (by omega)), h n (by omega)]; rfl
theorem sumTo_mem {f : Nat → Int} {i : Nat} : ∀ {n : Nat}, (∀ j, j < n → 0 ≤ f j) → i < n → f i ≤ sumTo f n
  | 0, _, h => by omega
  | n + 1, h, hi => by
    rw [sumTo]
    have h1 := sumTo_nonneg (f := f) (n := n) (fun j hj => h j (by omega))
    have h2 := h n (by omega)
    rcases Nat.lt_or_ge i n with c | c
    · have := sumTo_mem (f := f) (i := i) (n := n) (fun j hj => h j (by omega)) c
      omega
    · have : i = n := by omega
      rw [this]; omega
/-- a sum over a row of which one entry has grown -/
theorem sumTo_one {f g : Nat → Int} {i : Nat} {v : Int} : ∀ {n : Nat}, i < n → (∀ j, j < n → f j = if j = i then g j + v else g j) → sumTo f n = sumTo g n + v
  | 0, h, _ => by omega
  | n + 1, h, hf => by
    rw [sumTo, sumTo]
    have hn := hf n (by omega)
    rcases Nat.lt_or_ge i n with c | c
    · rw [sumTo_one (n := n) c (fun j hj => hf j (by omega)), hn, if_neg (by omega)]; omega
    · have : i = n := by omega
      rw [hn, if_pos this.symm, sumTo_congr (n := n) (f := f) (g := g) (fun j hj => by rw [hf j (by omega), if_neg (by omega)])]; omega
/-- what the program does, from the last node on -/
def szL (ps : List Int) (c : Nat → Int) : Nat → List Int → List Int
  | 0, o => o
  | n + 1, o =>
    let o1 := o.set n (wrap64 (o.getD n 0 + c n))
    szL ps c n (if 0 < n then o1.set (ps.getD n (-1)).toNat (wrap64 (o1.getD (ps.getD n (-1)).toNat 0 + o1.getD n 0)) else o1)
theorem getD_set {l : List Int} {i j : Nat} {v : Int} (h : i < l.length) : (l.set i v).getD j 0 = if j = i then v else l.getD j 0 := by
  rw [List.getD_eq_getElem?_getD, List.getD_eq_getElem?_getD, List.getElem?_set]
  by_cases c : i = j
  · subst c; rw [if_pos rfl, if_pos h, if_pos rfl]; rfl
  · rw [if_neg c, if_neg (fun h => c h.symm)]
theorem szL_len (ps : List Int) (c : Nat → Int) : ∀ (n : Nat) (o : List Int), (szL ps c n o).length = o.length
  | 0, o => rfl
  | n + 1, o => by
    rw [szL]
    rw [szL_len ps c n]
    split <;> simp
theorem szL_eq {ps : List Int} (hp : Par ps) (c : Nat → Int) (hc : ∀ j, 0 ≤ c j) : ∀ (n : Nat) (o : List Int), n ≤ ps.length → o.length = ps.length → (∀ j, j < n → 0 ≤ o.getD j 0) → sumTo (fun j => o.getD j 0 + c j) n ≤ 9223372036854775807 →
    ∀ p, (szL ps c n o).getD p 0 = if p < n then sumTo (fun j => if dsc ps p j = true then o.getD j 0 + c j else 0) n else o.getD p 0 := by
  intro n
  induction n with
  | zero => intro o _ _ _ _ p; rw [if_neg (by omega)]; rfl
  | succ n ih =>
    intro o hn ho h0 hs p
    rw [szL]
    rw [sumTo] at hs
    have hsum0 := sumTo_nonneg (f := fun j => o.getD j 0 + c j) (n := n) (fun j hj => by have := h0 j (by omega); have := hc j; omega)
    have hn0 := h0 n (by omega)
    have hcn := hc n
    have hv : wrap64 (o.getD n 0 + c n) = o.getD n 0 + c n := by unfold wrap64; omega
    rw [hv]
    have g1 : ∀ j, (o.set n (o.getD n 0 + c n)).getD j 0 = if j = n then o.getD n 0 + c n else o.getD j 0 := fun j => getD_set (by omega)
    by_cases c0 : 0 < n
    · rw [if_pos c0]
      have hpn := hp n (by omega)
      obtain ⟨q, hq⟩ : ∃ q : Nat, (ps.getD n (-1)).toNat = q := ⟨_, rfl⟩
      have hqn : q < n := by omega
      rw [hq]
      have g2 : (o.set n (o.getD n 0 + c n)).getD q 0 + (o.set n (o.getD n 0 + c n)).getD n 0 = o.getD q 0 + (o.getD n 0 + c n) := by
        rw [g1, g1, if_neg (by omega), if_pos rfl]
      rw [g2]
      have hq1 := sumTo_mem (f := fun j => o.getD j 0 + c j) (i := q) (n := n) (fun j hj => by have := h0 j (by omega); have := hc j; omega) hqn
      have hq0 := h0 q (by omega)
      have hcq := hc q
      have hw : wrap64 (o.getD q 0 + (o.getD n 0 + c n)) = o.getD q 0 + (o.getD n 0 + c n) := by unfold wrap64; omega
      rw [hw]
      have g3 : ∀ j, ((o.set n (o.getD n 0 + c n)).set q (o.getD q 0 + (o.getD n 0 + c n))).getD j 0 = if j = q then o.getD j 0 + (o.getD n 0 + c n) else if j = n then o.getD n 0 + c n else o.getD j 0 := by
        intro j
        rw [getD_set (by rw [List.length_set]; omega), g1]
        by_cases c1 : j = q
        · rw [if_pos c1, if_pos c1, c1]
        · rw [if_neg c1, if_neg c1]
      have hs' : sumTo (fun j => ((o.set n (o.getD n 0 + c n)).set q (o.getD q 0 + (o.getD n 0 + c n))).getD j 0 + c j) n = sumTo (fun j => o.getD j 0 + c j) n + (o.getD n 0 + c n) :=
        sumTo_one hqn (fun j hj => by
          rw [g3]
          by_cases c1 : j = q
          · rw [if_pos c1, if_pos c1]; omega
          · rw [if_neg c1, if_neg c1, if_neg (by omega)])
      rw [ih _ (by omega) (by simp [ho]) (fun j hj => by
        rw [g3]
        have := h0 j (by omega)
        by_cases c1 : j = q
        · rw [if_pos c1]; omega
        · rw [if_neg c1, if_neg (by omega)]; exact this) (by rw [hs']; omega)]
      by_cases cp : p < n
      · rw [if_pos cp, if_pos (by omega), sumTo]
        have hd : dsc ps p n = dsc ps p q := by
          rw [dsc_step hp p (by omega) c0, hq, show (n == p) = false by rw [beq_eq_false_iff_ne]; omega, Bool.false_or]
        rw [hd]
        by_cases c2 : dsc ps p q = true
        · rw [if_pos c2]
          exact sumTo_one hqn (fun j hj => by
            rw [g3]
            by_cases c1 : j = q
            · rw [if_pos c1, if_pos c1, c1, if_pos c2, if_pos c2]; omega
            · rw [if_neg c1, if_neg c1, if_neg (show ¬ j = n by omega)])
        · rw [if_neg c2, Int.add_zero]
          exact sumTo_congr (fun j hj => by
            rw [g3]
            by_cases c1 : j = q
            · rw [c1, if_neg c2, if_neg c2]
            · rw [if_neg c1, if_neg (show ¬ j = n by omega)])
      · rw [if_neg cp, g3, if_neg (by omega)]
        by_cases c1 : p = n
        · rw [if_pos c1, if_pos (by omega), sumTo, c1, if_pos (dsc_self n), sumTo_zero, Int.zero_add]
          intro j hj
          rw [dsc_last hp (by omega) hj, if_neg (by decide)]
        · rw [if_neg c1, if_neg (by omega)]
    · rw [if_neg c0]
      obtain rfl : n = 0 := by omega
      show (o.set 0 (o.getD 0 0 + c 0)).getD p 0 = _
      rw [g1]
      by_cases c1 : p = 0
      · rw [if_pos c1, if_pos (by omega), c1, sumTo, sumTo, if_pos (dsc_self 0), Int.zero_add]
      · rw [if_neg c1, if_neg (by omega)]
end Go.Proofs.YtgcdbpnflchobaaDoor.G
end
section
namespace Go.Proofs.YtgcdbpnflchobaaDoor.G
open Go.RowKit Go.Proofs.YtgcdbpnflchobaaDoorW.PrintWords Go.Proofs.YtgcdbpnflchobaaDoorW.PrintLast Go.Proofs.YtgcdbpnflchobaaDoorW.PrintMore
set_option linter.unusedVariables false
set_option linter.unusedSimpArgs false
/-! what the program and the document tell of a tree -/
def ps (ns : List Nd) : List Int := ns.map (·.f1)
theorem ps_len (ns : List Nd) : (ps ns).length = ns.length := List.length_map ..
theorem ps_at (ns : List Nd) (i : Nat) (h : i < ns.length) : (ps ns).getD i (-1) = pa ns i := by
  unfold ps pa
  rw [rn_eq ns i h, List.getD_eq_getElem?_getD, List.getElem?_map, List.getElem?_eq_getElem h]; rfl
theorem par_of {ns : List Nd} (h : mayT ns = true) : Par (ps ns) := fun i hi => by
  rw [ps_len] at hi
  rw [ps_at ns i hi]
  have := mayT_pa h i hi
  omega
def inT (ns : List Nd) (a : Int) : Bool := mayT ns && (decide (0 ≤ a) && decide (a < (ns.length : Int)))
theorem inT_spec {ns : List Nd} {a : Int} (h : inT ns a = true) : mayT ns = true ∧ 0 ≤ a ∧ a < (ns.length : Int) := by
  unfold inT at h
  rw [Bool.and_eq_true, Bool.and_eq_true, decide_eq_true_iff, decide_eq_true_iff] at h
  exact h
theorem inT_of {ns : List Nd} {a : Int} (h : mayT ns = true) (h0 : 0 ≤ a) (h1 : a < (ns.length : Int)) : inT ns a = true := by
  unfold inT
  rw [h, decide_eq_true h0, decide_eq_true h1]; rfl
theorem there_ev (ns : List Nd) (a : Int) : Ev (fun k => tree_there.f k ns a) (inT ns a) := by
  unfold tree_there.f inT
  refine Ev.bind (trailMay_ev ns) ?_
  cases mayT ns with
  | false => simp only [Bool.false_and]; exact Ev.now _
  | true =>
    simp only [if_pos, Bool.true_and]
    by_cases c : a ≥ 0
    · simp only [if_pos c, decide_eq_true c, Bool.true_and]; exact Ev.now _
    · simp only [if_neg c, decide_eq_false c, Bool.false_and]; exact Ev.now _
def kidsS (ns : List Nd) (a : Int) : List Int × Int := if inT ns a = true then (kidsTo ns a ns.length, 0) else ([], 1300)
theorem kids_ev (ns : List Nd) (a : Int) : Ev (fun k => tree_Kids.f k ns a) (kidsS ns a) := by
  unfold tree_Kids.f kidsS
  refine Ev.bind (there_ev ns a) ?_
  by_cases c : inT ns a = true
  · simp only [if_pos c]; exact Ev.now _
  · simp only [if_neg c]; exact Ev.now _
theorem refKids_l0 (ns : List Nd) (h : mayT ns = true) (a : Int) (h0 : 0 ≤ a) : ∀ (n i : Nat), i + n = ns.length → Ev (fun k => sleuthref12_kids.l0 k ns a (kidsTo ns a i) (i : Int)) (kidsTo ns a ns.length) := by
  have hlen := mayT_len h
  intro n
  induction n with
  | zero =>
    intro i hi
    obtain rfl : i = ns.length := by omega
    refine Ev.step (f := fun _ => some (kidsTo ns a ns.length)) (fun k => ?_) (Ev.now _)
    rw [sleuthref12_kids.l0, if_neg (by omega)]
  | succ n ih =>
    intro i hi
    have hw : wrap64 ((i : Int) + 1) = ((i + 1 : Nat) : Int) := by rw [w64 (by omega) (by omega)]; omega
    have hpa := mayT_pa h i (by omega)
    refine Ev.step (f := fun k => sleuthref12_kids.l0 k ns a (kidsTo ns a (i + 1)) ((i + 1 : Nat) : Int)) (fun k => ?_) (ih (i + 1) (by omega))
    rw [sleuthref12_kids.l0, if_pos (by omega), if_pos (by omega), hw]
    by_cases c : (rn ns (i : Int)).f1 = a
    · have hk := kidsTo_len ns a i
      rw [if_pos c, if_pos (by omega), kidsTo, if_pos ⟨by unfold pa at hpa; omega, c⟩]
    · rw [if_neg c, kidsTo, if_neg (fun hh => c hh.2)]
theorem refKids_ev (ns : List Nd) (hok : okN ns) (a : Int) : Ev (fun k => sleuthref12_Kids.f k ns a) (kidsS ns a) := by
  unfold sleuthref12_Kids.f kidsS inT
  refine Ev.bind (refTrail_ev ns hok) ?_
  cases hm : mayT ns with
  | false => simp only [Bool.false_and]; exact Ev.now _
  | true =>
    have hlen := mayT_len hm
    have hw : wrap64 ((ns.length : Int) - 1) = (ns.length : Int) - 1 := w64 (by omega) (by omega)
    simp only [if_pos, upTo_eq, Option.bind_some, hw, Bool.true_and]
    have e : decide (a ≤ (ns.length : Int) - 1) = decide (a < (ns.length : Int)) := decide_eq_decide.2 (by omega)
    rw [e]
    by_cases c : (decide (0 ≤ a) && decide (a < (ns.length : Int))) = true
    · simp only [if_pos c]
      rw [Bool.and_eq_true, decide_eq_true_iff, decide_eq_true_iff] at c
      exact Ev.bind (refKids_l0 ns hm a c.1 ns.length 0 (by omega)) (Ev.now _)
    · simp only [if_neg c]; exact Ev.now _
/-! sizes -/
theorem sizesL_szL (ns : List Nd) (hp : Par (ps ns)) (c : Int → Int) : ∀ (n : Nat) (o : List Int), n ≤ ns.length → sizesL ns c n o = szL (ps ns) (fun j => c (j : Int)) n o
  | 0, o, _ => rfl
  | n + 1, o, h => by
    have hr : ∀ (l : List Int) (j : Nat), rd l (j : Int) = l.getD j 0 := fun l j => by show l.getD _ _ = _; rw [Int.toNat_natCast]
    rw [sizesL, szL]
    have hpa : (rn ns (n : Int)).f1 = (ps ns).getD n (-1) := (ps_at ns n (by omega)).symm
    simp only [hr]
    by_cases c0 : 0 < n
    · have hp1 := hp n (by rw [ps_len]; omega)
      have hz : (((ps ns).getD n (-1)).toNat : Int) = (ps ns).getD n (-1) := by omega
      rw [if_pos c0, if_pos c0, hpa]
      have hrp : ∀ l : List Int, rd l ((ps ns).getD n (-1)) = l.getD ((ps ns).getD n (-1)).toNat 0 := fun l => rfl
      rw [hrp]
      exact sizesL_szL ns hp c n _ (by omega)
    · rw [if_neg c0, if_neg c0]
      exact sizesL_szL ns hp c n _ (by omega)
def indD (ns : List Nd) (p : Nat) (j : Nat) : Int := if dsc (ps ns) p j = true then 1 else 0
def cntD (ns : List Nd) (p : Nat) : Int := sumTo (indD ns p) ns.length
theorem indD_range (ns : List Nd) (p j : Nat) : 0 ≤ indD ns p j ∧ indD ns p j ≤ 1 := by
  unfold indD
  split <;> omega
theorem sumTo_const : ∀ (n : Nat), sumTo (fun _ => (1 : Int)) n = n
  | 0 => rfl
  | n + 1 => by rw [sumTo, sumTo_const n]; omega
theorem cntD_range (ns : List Nd) (p : Nat) : 0 ≤ cntD ns p ∧ cntD ns p ≤ ns.length := by
  refine ⟨sumTo_nonneg (fun j _ => (indD_range ns p j).1), ?_⟩
  have := sumTo_le (f := indD ns p) (g := fun _ => 1) (n := ns.length) (fun j _ => (indD_range ns p j).2)
  rw [sumTo_const] at this
  exact this
theorem rep_zero (m j : Nat) : (List.replicate m (0 : Int)).getD j 0 = 0 := by
  rw [List.getD_eq_getElem?_getD, List.getElem?_replicate]
  split <;> rfl
theorem sizesP_gen {ns : List Nd} (h : mayT ns = true) (c : Int → Int) (hc : ∀ j : Nat, 0 ≤ c (j : Int)) (hs : sumTo (fun j => c (j : Int)) ns.length ≤ 9223372036854775807) (p : Nat) (hp : p < ns.length) : rd (sizesP ns c) (p : Int) = sumTo (fun j => if dsc (ps ns) p j = true then c (j : Int) else 0) ns.length := by
  have hpar := par_of h
  show (sizesP ns c).getD (p : Int).toNat 0 = _
  rw [Int.toNat_natCast]
  unfold sizesP
  rw [sizesL_szL ns hpar c _ _ (Nat.le_refl _)]
  have hz : ∀ j, (List.replicate ns.length (0 : Int)).getD j 0 + c (j : Int) = c (j : Int) := fun j => by rw [rep_zero]; omega
  have := szL_eq hpar (fun j => c (j : Int)) hc ns.length (List.replicate ns.length 0) (by rw [ps_len]; exact Nat.le_refl _) (by rw [ps_len, List.length_replicate]) (fun j _ => by rw [rep_zero]; exact Int.le_refl _)
    (by simp only [hz]; exact hs) p
  rw [this, if_pos hp]
  exact sumTo_congr (fun j _ => by rw [hz])
theorem sizesP_at {ns : List Nd} (h : mayT ns = true) (p : Nat) (hp : p < ns.length) : rd (sizesP ns (fun _ => 1)) (p : Int) = cntD ns p := by
  have hlen := mayT_len h
  exact sizesP_gen h (fun _ => 1) (fun _ => by omega) (by rw [sumTo_const]; omega) p hp
def sizeS (ns : List Nd) (a : Int) : Int × Int := if inT ns a = true then (cntD ns a.toNat, 0) else (0, 1300)
theorem size_ev (ns : List Nd) (a : Int) : Ev (fun k => tree_Size.f k ns a) (sizeS ns a) := by
  unfold tree_Size.f sizeS
  refine Ev.bind (there_ev ns a) ?_
  by_cases c : inT ns a = true
  · simp only [if_pos c]
    obtain ⟨h1, h2, h3⟩ := inT_spec c
    have := sizesP_at h1 a.toNat (by omega)
    rw [show ((a.toNat : Nat) : Int) = a by omega] at this
    rw [this]
    exact Ev.now _
  · simp only [if_neg c]; exact Ev.now _
/-- the document's marks: which nodes count -/
def marksD (ns : List Nd) (p : Nat) (i : Nat) : List Bool := (List.range ns.length).map fun j => decide (j < i) && dsc (ps ns) p j
theorem marksD_len (ns : List Nd) (p i : Nat) : (marksD ns p i).length = ns.length := by simp [marksD]
theorem marksD_at (ns : List Nd) (p i j : Nat) (h : j < ns.length) : rdOf false (marksD ns p i) (j : Int) = (decide (j < i) && dsc (ps ns) p j) := by
  show (marksD ns p i).getD (j : Int).toNat false = _
  rw [Int.toNat_natCast]
  unfold marksD
  rw [List.getD_eq_getElem?_getD, List.getElem?_map, List.getElem?_range h]; rfl
theorem marksD_set (ns : List Nd) (p i : Nat) (h : i < ns.length) : (marksD ns p i).set i (dsc (ps ns) p i) = marksD ns p (i + 1) := by
  apply List.ext_getElem
  · simp [marksD]
  · intro j h1 h2
    have hj : j < ns.length := by rw [marksD_len] at h2; exact h2
    rw [List.getElem_set]
    by_cases c : i = j
    · subst c
      rw [if_pos rfl]
      simp [marksD]
    · rw [if_neg c]
      simp only [marksD, List.getElem_map, List.getElem_range]
      congr 1
      exact decide_eq_decide.2 (by omega)
theorem refSize_l0 {ns : List Nd} (h : mayT ns = true) (p : Nat) (hp : p < ns.length) : ∀ (n i : Nat), p ≤ i → i + n = ns.length → Ev (fun k => sleuthref12_Size.l0 k ns (p : Int) (marksD ns p i) (sumTo (indD ns p) i) (i : Int)) (cntD ns p, 0) := by
  have hlen := mayT_len h
  have hpar := par_of h
  intro n
  induction n with
  | zero =>
    intro i hpi hi
    obtain rfl : i = ns.length := by omega
    refine Ev.step (f := fun _ => some (cntD ns p, 0)) (fun k => ?_) (Ev.now _)
    rw [sleuthref12_Size.l0, if_neg (by omega)]
    rfl
  | succ n ih =>
    intro i hpi hi
    have hil : i < ns.length := by omega
    have hw : wrap64 ((i : Int) + 1) = ((i + 1 : Nat) : Int) := by rw [w64 (by omega) (by omega)]; omega
    have hsum : 0 ≤ sumTo (indD ns p) i ∧ sumTo (indD ns p) i ≤ i := by
      refine ⟨sumTo_nonneg (fun j _ => (indD_range ns p j).1), ?_⟩
      have := sumTo_le (f := indD ns p) (g := fun _ => 1) (n := i) (fun j _ => (indD_range ns p j).2)
      rw [sumTo_const] at this
      exact this
    have hws : wrap64 (sumTo (indD ns p) i + 1) = sumTo (indD ns p) i + 1 := w64 (by omega) (by omega)
    refine Ev.step (f := fun k => sleuthref12_Size.l0 k ns (p : Int) (marksD ns p (i + 1)) (sumTo (indD ns p) (i + 1)) ((i + 1 : Nat) : Int)) (fun k => ?_) (ih (i + 1) (by omega) (by omega))
    have fin : ∀ b : Bool, b = dsc (ps ns) p i → (if rdOf false ((marksD ns p i).set (i : Int).toNat b) (i : Int) = true then sleuthref12_Size.l0 k ns (p : Int) ((marksD ns p i).set (i : Int).toNat b) (wrap64 (sumTo (indD ns p) i + 1)) (wrap64 ((i : Int) + 1)) else sleuthref12_Size.l0 k ns (p : Int) ((marksD ns p i).set (i : Int).toNat b) (sumTo (indD ns p) i) (wrap64 ((i : Int) + 1))) = sleuthref12_Size.l0 k ns (p : Int) (marksD ns p (i + 1)) (sumTo (indD ns p) (i + 1)) ((i + 1 : Nat) : Int) := by
      rintro b rfl
      rw [Int.toNat_natCast, marksD_set ns p i hil, marksD_at ns p (i + 1) i hil, decide_eq_true (Nat.lt_succ_self i), Bool.true_and, hw, hws, sumTo]
      unfold indD
      cases dsc (ps ns) p i with
      | true => rw [if_pos rfl, if_pos rfl]
      | false => rw [if_neg (by decide), if_neg (by decide), Int.add_zero]
    rw [sleuthref12_Size.l0, if_pos (by omega)]
    by_cases c : (i : Int) = (p : Int)
    · have hip : i = p := by omega
      rw [if_pos c, if_pos (by omega), if_pos (by rw [marksD_len]; omega), Option.bind_some]
      exact fin true (by rw [hip]; exact (dsc_self p).symm)
    · have h0 : 0 < i := by omega
      have hpa := mayT_pa h i hil
      have hpa' : (rn ns (i : Int)).f1 = pa ns i := rfl
      rw [if_neg c, if_pos (by omega), hpa', if_pos (by omega), if_pos (by omega), if_pos (by rw [marksD_len]; omega), if_pos (by rw [marksD_len]; omega), Option.bind_some]
      refine fin _ ?_
      have e1 : ((pa ns i).toNat : Int) = pa ns i := by omega
      have := marksD_at ns p i (pa ns i).toNat (by omega)
      rw [e1] at this
      rw [this, dsc_step hpar p (by rw [ps_len]; exact hil) h0, ps_at ns i hil, show (i == p) = false by rw [beq_eq_false_iff_ne]; omega, Bool.false_or, decide_eq_true (by omega), Bool.true_and]
theorem marksD_start {ns : List Nd} (h : mayT ns = true) (p : Nat) (hp : p < ns.length) : marksD ns p p = List.replicate ns.length false := by
  apply List.ext_getElem
  · simp [marksD]
  · intro j h1 h2
    rw [List.getElem_replicate]
    simp only [marksD, List.getElem_map, List.getElem_range]
    by_cases c : j < p
    · rw [dsc_last (par_of h) (by rw [ps_len]; omega) c, Bool.and_false]
    · rw [decide_eq_false c, Bool.false_and]
theorem refSize_ev (ns : List Nd) (hok : okN ns) (a : Int) : Ev (fun k => sleuthref12_Size.f k ns a) (sizeS ns a) := by
  unfold sleuthref12_Size.f sizeS inT
  refine Ev.bind (refTrail_ev ns hok) ?_
  have bad : Ev (fun k => sleuthref12_Size.j0 k ns a true) (0, 1300) := Ev.step (f := fun _ => some (0, 1300)) (fun k => by simp only [sleuthref12_Size.j0, if_pos]) (Ev.now _)
  cases hm : mayT ns with
  | false => simp only [Bool.false_and]; exact bad
  | true =>
    have hlen := mayT_len hm
    have hw : wrap64 ((ns.length : Int) - 1) = (ns.length : Int) - 1 := w64 (by omega) (by omega)
    simp only [if_pos, upTo_eq, Option.bind_some, hw, Bool.true_and]
    have e : decide (a ≤ (ns.length : Int) - 1) = decide (a < (ns.length : Int)) := decide_eq_decide.2 (by omega)
    rw [e]
    by_cases c : (decide (0 ≤ a) && decide (a < (ns.length : Int))) = true
    · simp only [if_pos c]
      rw [c]
      rw [Bool.and_eq_true, decide_eq_true_iff, decide_eq_true_iff] at c
      refine Ev.step (f := fun k => sleuthref12_Size.l0 k ns ((a.toNat : Nat) : Int) (marksD ns a.toNat a.toNat) (sumTo (indD ns a.toNat) a.toNat) ((a.toNat : Nat) : Int)) (fun k => ?_) (refSize_l0 hm a.toNat (by omega) (ns.length - a.toNat) a.toNat (Nat.le_refl _) (by omega))
      simp only [sleuthref12_Size.j0, Bool.not_true]
      have hz : sumTo (indD ns a.toNat) a.toNat = 0 := sumTo_zero (fun j hj => by
        unfold indD
        rw [dsc_last (par_of hm) (by rw [ps_len]; omega) hj, if_neg (by decide)])
      rw [if_neg (by decide), if_pos (by omega), if_pos (by omega), marksD_start hm a.toNat (by omega), hz, show ((a.toNat : Nat) : Int) = a by omega, Int.toNat_natCast]
    · have c' := c
      rw [Bool.not_eq_true] at c'
      rw [c']
      simp only [Bool.not_false]
      rw [if_neg (by decide)]
      exact bad
end Go.Proofs.YtgcdbpnflchobaaDoor.G
end
