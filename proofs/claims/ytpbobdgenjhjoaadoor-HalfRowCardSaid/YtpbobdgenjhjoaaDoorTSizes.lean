/- Sizes over a trail, as sums (for a seat that has tree.Sizes, but not tree.Size). -/
import Derived.Test.YtpbobdgenjhjoaaDoorTreeMath
import Derived.Test.YtpbobdgenjhjoaaDoorTopVals
import Derived.Test.YtpbobdgenjhjoaaDoorG24
namespace Go.Proofs.YtpbobdgenjhjoaaDoor.G
open Go.RowKit Go.Proofs.YtpbobdgenjhjoaaDoorW.PrintWords Go.Proofs.YtpbobdgenjhjoaaDoorW.PrintLast Go.Proofs.YtpbobdgenjhjoaaDoorW.PrintMore
set_option linter.unusedVariables false
set_option linter.unusedSimpArgs false
def ps (ns : List Nd) : List Int := ns.map (·.f1)
theorem ps_len (ns : List Nd) : (ps ns).length = ns.length := List.length_map ..
theorem ps_at (ns : List Nd) (i : Nat) (h : i < ns.length) : (ps ns).getD i (-1) = pa ns i := by
  unfold ps pa
  rw [rn_eq ns i h, List.getD_eq_getElem?_getD, List.getElem?_map, List.getElem?_eq_getElem h]; rfl
theorem par_of {ns : List Nd} (h : mayT ns = true) : Par (ps ns) := fun i hi => by
  rw [ps_len] at hi
  rw [ps_at ns i hi]
  have := mayT_pa h i hi
  omega
theorem sizesL_szL (ns : List Nd) (hp : Par (ps ns)) (c : Int → Int) : ∀ (n : Nat) (o : List Int), n ≤ ns.length → sizesL ns c n o = szL (ps ns) (fun j => c (j : Int)) n o
  | 0, o, _ => rfl
  | n + 1, o, h => by
    have hr : ∀ (l : List Int) (j : Nat), rd l (j : Int) = l.getD j 0 := fun l j => by show l.getD _ _ = _; rw [Int.toNat_natCast]
    rw [sizesL, szL]
    have hpa : (rn ns (n : Int)).f1 = (ps ns).getD n (-1) := (ps_at ns n (by omega)).symm
    simp only [hr]
    by_cases c0 : 0 < n
    · have hp1 := hp n (by rw [ps_len]; omega)
      have hz : (((ps ns).getD n (-1)).toNat : Int) = (ps ns).getD n (-1) := by omega
      rw [if_pos c0, if_pos c0, hpa]
      have hrp : ∀ l : List Int, rd l ((ps ns).getD n (-1)) = l.getD ((ps ns).getD n (-1)).toNat 0 := fun l => rfl
      rw [hrp]
      exact sizesL_szL ns hp c n _ (by omega)
    · rw [if_neg c0, if_neg c0]
      exact sizesL_szL ns hp c n _ (by omega)
theorem sumTo_const : ∀ (n : Nat), sumTo (fun _ => (1 : Int)) n = n
  | 0 => rfl
  | n + 1 => by rw [sumTo, sumTo_const n]; omega
theorem rep_zero (m j : Nat) : (List.replicate m (0 : Int)).getD j 0 = 0 := by
  rw [List.getD_eq_getElem?_getD, List.getElem?_replicate]
  split <;> rfl
theorem sizesP_gen {ns : List Nd} (h : mayT ns = true) (c : Int → Int) (hc : ∀ j : Nat, 0 ≤ c (j : Int)) (hs : sumTo (fun j => c (j : Int)) ns.length ≤ 9223372036854775807) (p : Nat) (hp : p < ns.length) : rd (sizesP ns c) (p : Int) = sumTo (fun j => if dsc (ps ns) p j = true then c (j : Int) else 0) ns.length := by
  have hpar := par_of h
  show (sizesP ns c).getD (p : Int).toNat 0 = _
  rw [Int.toNat_natCast]
  unfold sizesP
  rw [sizesL_szL ns hpar c _ _ (Nat.le_refl _)]
  have hz : ∀ j, (List.replicate ns.length (0 : Int)).getD j 0 + c (j : Int) = c (j : Int) := fun j => by rw [rep_zero]; omega
  have := szL_eq hpar (fun j => c (j : Int)) hc ns.length (List.replicate ns.length 0) (by rw [ps_len]; exact Nat.le_refl _) (by rw [ps_len, List.length_replicate]) (fun j _ => by rw [rep_zero]; exact Int.le_refl _)
    (by simp only [hz]; exact hs) p
  rw [this, if_pos hp]
  exact sumTo_congr (fun j _ => by rw [hz])
def one (p : Int) : Nd := ⟨0, p, [], (⟨#[49]⟩ : ByteArray)⟩
theorem eqS_one (p : Int) : eqS (one p) = true := by
  have h : mayS (⟨#[49]⟩ : ByteArray) = true := by kernel_rfl
  unfold eqS one
  simp only [h]
  rfl
theorem rn_map (k : Nat) (f : Nat → Nd) (j : Nat) (h : j < k) : rn ((List.range k).map f) (j : Int) = f j := by
  rw [rn_eq _ j (by simpa using h)]
  simp
theorem may_map (k : Nat) (h0 : 0 < k) (h1 : k ≤ 512) (f : Nat → Int) (hf : ∀ j, j < k → (0 ≤ f j ∧ f j < (j : Int)) ∨ (j = 0 ∧ f j = -1)) : mayT ((List.range k).map fun j => one (f j)) = true := by
  unfold mayT
  rw [Bool.and_eq_true, decide_eq_true_iff, List.length_map, List.length_range]
  refine ⟨h0, List.all_eq_true.2 fun i hi => ?_⟩
  have hi := List.mem_range.1 hi
  rw [rn_map k _ i hi]
  unfold nextS
  rw [eqS_one, Bool.and_true, Bool.and_eq_true, Bool.or_eq_true, decide_eq_true_iff, decide_eq_true_iff, decide_eq_true_iff]
  refine ⟨by omega, ?_⟩
  show (0 ≤ f i ∧ f i < (i : Int)) ∨ ((i : Int) = 0 ∧ f i = -1)
  have := hf i hi
  omega
def rowI (k i : Nat) (f : Nat → Nd) : List Nd := (List.range k).map fun j => if j < i then f j else z41
theorem rowI_set (k i : Nat) (f : Nat → Nd) (h : i < k) : (rowI k i f).set i (f i) = rowI k (i + 1) f := by
  apply List.ext_getElem
  · simp [rowI]
  · intro j h1 h2
    rw [List.getElem_set]
    simp only [rowI, List.getElem_map, List.getElem_range]
    by_cases c : i = j
    · subst c; rw [if_pos rfl, if_pos (by omega)]
    · rw [if_neg c]
      by_cases d : j < i
      · rw [if_pos d, if_pos (by omega)]
      · rw [if_neg d, if_neg (by omega)]
theorem rowI_zero (k : Nat) (f : Nat → Nd) : rowI k 0 f = List.replicate k z41 := by
  apply List.ext_getElem
  · simp [rowI]
  · intro j h1 h2
    simp [rowI]
theorem rowI_full (k : Nat) (f : Nat → Nd) : rowI k k f = (List.range k).map f := by
  unfold rowI
  apply List.map_congr_left
  intro j hj
  rw [if_pos (List.mem_range.1 hj)]
def rowN (k : Nat) : List Nd := (List.range k).map fun j : Nat => one ((j : Int) - 1)
theorem may_row (k : Nat) (h0 : 0 < k) (h1 : k ≤ 512) : mayT (rowN k) = true := may_map k h0 h1 (fun j : Nat => (j : Int) - 1) (fun j hj => by omega)
theorem row_len (k : Nat) : (rowN k).length = k := by simp [rowN]
theorem row_pa (k j : Nat) (h : j < k) : pa (rowN k) j = (j : Int) - 1 := by unfold pa rowN; rw [rn_map k _ j h]; rfl
theorem row_dsc (k : Nat) (h0 : 0 < k) (h1 : k ≤ 512) (p : Nat) : ∀ j, j < k → dsc (ps (rowN k)) p j = decide (p ≤ j) := by
  have hp := par_of (may_row k h0 h1)
  intro j
  induction j with
  | zero =>
    intro hj
    rw [dsc_zero hp p (by rw [ps_len, row_len]; omega), Bool.eq_iff_iff, beq_iff_eq, decide_eq_true_iff]; omega
  | succ j ih =>
    intro hj
    rw [dsc_step hp p (by rw [ps_len, row_len]; omega) (by omega), ps_at _ _ (by rw [row_len]; omega), row_pa k _ hj, show (((j + 1 : Nat) : Int) - 1).toNat = j by omega, ih (by omega), Bool.eq_iff_iff, Bool.or_eq_true, beq_iff_eq, decide_eq_true_iff, decide_eq_true_iff]; omega
theorem sum_ge (p : Nat) : ∀ n : Nat, sumTo (fun j => if p ≤ j then (1 : Int) else 0) n = ((n - p : Nat) : Int)
  | 0 => by rw [sumTo]; simp
  | n + 1 => by
    rw [sumTo, sum_ge p n]
    by_cases c : p ≤ n
    · rw [if_pos c]; omega
    · rw [if_neg c]; omega
end Go.Proofs.YtpbobdgenjhjoaaDoor.G
