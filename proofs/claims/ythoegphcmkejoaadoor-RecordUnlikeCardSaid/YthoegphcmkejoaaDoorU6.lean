/- Parts of this proof, one behind the other: TRec, G12, G16, G17, RecVals, RecGet, G13, TNodes, G18, G19, RecWake. -/
import Derived.Test.YthoegphcmkejoaaDoorU5
import Derived.Test.YthoegphcmkejoaaDoorU2
import Derived.Test.YthoegphcmkejoaaDoorG0
section
namespace Go.Proofs.YthoegphcmkejoaaDoor.G
open Go.RowKit Go.Proofs.YthoegphcmkejoaaDoorW.PrintWords Go.Proofs.YthoegphcmkejoaaDoorW.PrintLast Go.Proofs.YthoegphcmkejoaaDoorW.PrintMore
set_option linter.unusedVariables false
set_option linter.unusedSimpArgs false
def recS (x : Nd) : Bool := eqS x && (decide (-1 ≤ x.f1) && decide (x.f1 < 512))
def textL (s : ByteArray) : List Int := lowL 2 (s.size : Int) ++ bytesOf s
def recL (x : Nd) : List Int := (lowL 1 x.f0 ++ (lowL 2 (x.f1 + 1) ++ lowL 1 (x.f2.length : Int))) ++ (x.f2.flatMap textL ++ textL x.f3)
def recOf (x : Nd) : ByteArray := strOfNums (recL x)
def putR (x : Nd) : ByteArray × Int := if recS x = true then (recOf x, 0) else (⟨#[]⟩, 1500)
theorem numLE_low : ∀ (n : Nat) (x : Int), 0 ≤ x → x < 256 ^ n → numLE (lowL n x) = x
  | 0, x, h0, h1 => by rw [Int.pow_zero] at h1; rw [lowL, numLE]; omega
  | n + 1, x, h0, h1 => by
    rw [lowL, numLE, numLE_low n (x / 256) (by omega) (by rw [Int.pow_succ] at h1; omega)]
    omega
theorem numLE_range : ∀ L : List Int, (∀ y ∈ L, 0 ≤ y ∧ y < 256) → 0 ≤ numLE L ∧ numLE L < 256 ^ L.length
  | [], _ => ⟨Int.le_refl _, by decide⟩
  | b :: t, h => by
    obtain ⟨h0, h1⟩ := numLE_range t (fun y hy => h y (List.mem_cons_of_mem _ hy))
    have hb := h b (List.mem_cons_self ..)
    rw [numLE, List.length_cons, Int.pow_succ]
    omega
def textP (L : List Int) : ByteArray × List Int := (strOfNums ((L.drop 2).take (numLE (L.take 2)).toNat), (L.drop 2).drop (numLE (L.take 2)).toNat)
def argsP : Nat → List Int → List ByteArray × List Int
  | 0, L => ([], L)
  | n + 1, L => ((textP L).1 :: (argsP n (textP L).2).1, (argsP n (textP L).2).2)
def manyP (L : List Int) : Int := if numLE ((L.drop 3).take 1) < 3 then numLE ((L.drop 3).take 1) else 3
def getP (L : List Int) : Nd := ⟨numLE (L.take 1), numLE ((L.drop 1).take 2) - 1, (argsP (manyP L).toNat (L.drop 4)).1, (textP (argsP (manyP L).toNat (L.drop 4)).2).1⟩
theorem textP_text (s : ByteArray) (hs : s.size < 65536) (R : List Int) : textP (textL s ++ R) = (s, R) := by
  have hl : (lowL 2 (s.size : Int)).length = 2 := lowL_length _ _
  have e1 : (textL s ++ R).take 2 = lowL 2 (s.size : Int) := by
    unfold textL
    rw [List.append_assoc, List.take_append_of_le_length (by omega), List.take_of_length_le (by omega)]
  have e2 : (textL s ++ R).drop 2 = bytesOf s ++ R := by
    unfold textL
    rw [List.append_assoc, List.drop_append_of_le_length (by omega), List.drop_eq_nil_of_le (by omega), List.nil_append]
  have e3 : (numLE (lowL 2 (s.size : Int))).toNat = (bytesOf s).length := by
    rw [numLE_low 2 _ (by omega) (by show (s.size : Int) < 65536; omega), bytesOf_length]; rfl
  unfold textP
  rw [e1, e2, e3, List.take_append_of_le_length (Nat.le_refl _), List.take_of_length_le (Nat.le_refl _), List.drop_append_of_le_length (Nat.le_refl _), List.drop_eq_nil_of_le (Nat.le_refl _), List.nil_append, strOfNums_bytesOf]
theorem argsP_args : ∀ (l : List ByteArray) (R : List Int), (∀ s ∈ l, s.size < 65536) → argsP l.length (l.flatMap textL ++ R) = (l, R)
  | [], R, _ => rfl
  | s :: l, R, h => by
    rw [List.flatMap_cons, List.append_assoc, List.length_cons, argsP, textP_text s (h s (List.mem_cons_self ..)), argsP_args l R (fun x hx => h x (List.mem_cons_of_mem _ hx))]
theorem recS_spec {x : Nd} (h : recS x = true) : eqS x = true ∧ -1 ≤ x.f1 ∧ x.f1 < 512 := by
  unfold recS at h
  rw [Bool.and_eq_true, Bool.and_eq_true] at h
  exact ⟨h.1, of_decide_eq_true h.2.1, of_decide_eq_true h.2.2⟩
theorem eqS_spec {x : Nd} (h : eqS x = true) : 0 ≤ x.f0 ∧ x.f0 < 8 ∧ x.f2.length ≤ 3 ∧ (∀ s ∈ x.f2, mayS s = true) ∧ mayS x.f3 = true := by
  unfold eqS at h
  rw [Bool.and_eq_true, Bool.and_eq_true, Bool.and_eq_true, Bool.and_eq_true] at h
  exact ⟨of_decide_eq_true h.1.1.1.1, of_decide_eq_true h.1.1.1.2, of_decide_eq_true h.1.1.2, fun s hs => List.all_eq_true.1 h.1.2 s hs, h.2⟩
theorem mayS_size {s : ByteArray} (h : mayS s = true) : s.size ≤ 1024 := by
  unfold mayS cutS cutL at h
  have h := of_decide_eq_true h
  by_cases c : s.data.toList.length > 1024
  · rw [if_pos c] at h; exact absurd h (by decide)
  · have e : s.data.toList.length = s.size := by rw [Array.length_toList]; rfl
    omega
theorem recL_head (x : Nd) (R : List Int) : (recL x ++ R).take 1 = lowL 1 x.f0 ∧ ((recL x ++ R).drop 1).take 2 = lowL 2 (x.f1 + 1) ∧ ((recL x ++ R).drop 3).take 1 = lowL 1 (x.f2.length : Int) ∧ (recL x ++ R).drop 4 = x.f2.flatMap textL ++ (textL x.f3 ++ R) := by
  unfold recL
  refine ⟨rfl, rfl, rfl, ?_⟩
  show (x.f2.flatMap textL ++ textL x.f3) ++ R = _
  rw [List.append_assoc]
theorem getP_app (x : Nd) (h : recS x = true) (R : List Int) : getP (recL x ++ R) = x := by
  obtain ⟨h1, h2, h3, h4⟩ := recL_head x R
  obtain ⟨e, p0, p1⟩ := recS_spec h
  obtain ⟨q0, q1, q2, q3, q4⟩ := eqS_spec e
  have hm : manyP (recL x ++ R) = (x.f2.length : Int) := by
    unfold manyP
    rw [h3, numLE_low 1 _ (by omega) (by show (x.f2.length : Int) < 256; omega)]
    split <;> omega
  have ha := argsP_args x.f2 (textL x.f3 ++ R) (fun s hs => by have := mayS_size (q3 s hs); omega)
  have ht := textP_text x.f3 (by have := mayS_size q4; omega) R
  unfold getP
  rw [hm, h1, h2, h4, Int.toNat_natCast, ha, ht, numLE_low 1 _ q0 (by show x.f0 < 256; omega), numLE_low 2 _ (by omega) (by show x.f1 + 1 < 65536; omega), Int.add_sub_cancel]
theorem getP_rec (x : Nd) (h : recS x = true) : getP (recL x) = x := by
  have := getP_app x h []
  rw [List.append_nil] at this
  exact this
theorem recL_range (x : Nd) : ∀ y ∈ recL x, 0 ≤ y ∧ y < 256 := by
  have ht : ∀ s : ByteArray, ∀ y ∈ textL s, 0 ≤ y ∧ y < 256 := fun s y hy => by
    rcases List.mem_append.1 hy with hy | hy
    · exact lowL_range _ _ y hy
    · exact bytesOf_range _ y hy
  intro y hy
  unfold recL at hy
  rcases List.mem_append.1 hy with hy | hy
  · rcases List.mem_append.1 hy with hy | hy
    · exact lowL_range _ _ y hy
    · rcases List.mem_append.1 hy with hy | hy
      · exact lowL_range _ _ y hy
      · exact lowL_range _ _ y hy
  · rcases List.mem_append.1 hy with hy | hy
    · obtain ⟨s, _, hs⟩ := List.mem_flatMap.1 hy
      exact ht s y hs
    · exact ht _ y hy
theorem recOf_bytes (x : Nd) : bytesOf (recOf x) = recL x := bytesOf_strOfNums _ (recL_range x)
def getR (s : ByteArray) : Nd × Int := if recS (getP (bytesOf s)) = true ∧ recOf (getP (bytesOf s)) = s then (getP (bytesOf s), 0) else (⟨0, 0, [], ⟨#[]⟩⟩, 1500)
theorem getR_of {s : ByteArray} {x : Nd} (h : recS x = true) (hs : recOf x = s) : getR s = (x, 0) := by
  have e : getP (bytesOf s) = x := by rw [← hs, recOf_bytes, getP_rec x h]
  unfold getR
  rw [e, if_pos ⟨h, hs⟩]
theorem getR_not {s : ByteArray} (h : ∀ x, recS x = true → recOf x ≠ s) : getR s = (⟨0, 0, [], ⟨#[]⟩⟩, 1500) := by
  unfold getR
  rw [if_neg (fun hh => h _ hh.1 hh.2)]
end Go.Proofs.YthoegphcmkejoaaDoor.G
end
section
namespace Go.Proofs.YthoegphcmkejoaaDoor.G
open Go.RowKit Go.Proofs.YthoegphcmkejoaaDoorW.PrintWords Go.Proofs.YthoegphcmkejoaaDoorW.PrintLast Go.Proofs.YthoegphcmkejoaaDoorW.PrintMore
set_option maxHeartbeats 8000000
set_option maxRecDepth 100000
attribute [local go_sem] max2_int min2_int max_two min_two max_three min_three max_four min_four   -- for this text's walks alone
set_option linter.unusedVariables false
set_option linter.unusedSimpArgs false

def record_Put.l0 : Nat → ByteArray → Int → List ByteArray → ByteArray → Option (ByteArray × Int)
 | 0, _, _, _, _ => none
 | k + 1, o, x, l2, a3 => if x < (l2.length : Int) then (if 0 ≤ x then (record_text.f k (rdOf ByteArray.empty l2 x)).bind fun t => (if o.size + t.size ≤ 9223372036854775807 then record_Put.l0 k (o ++ t) (wrap64 (x + 1)) l2 a3 else none) else none) else (record_text.f k a3).bind fun t => (if o.size + t.size ≤ 9223372036854775807 then some (o ++ t, 0) else none)
def record_Put.m (k : Nat) (a0 : Int) (a1 : Int) (l2 : List ByteArray) (a3 : ByteArray) : Option (ByteArray × Int) := (record_low.f k a0 1).bind fun t0 => (record_low.f k (wrap64 (a1 + 1)) 2).bind fun t1 => (if t0.size + t1.size ≤ 9223372036854775807 then (record_low.f k (l2.length : Int) 1).bind fun t2 => (if (t0 ++ t1).size + t2.size ≤ 9223372036854775807 then record_Put.l0 k ((t0 ++ t1) ++ t2) 0 l2 a3 else none) else none)
def record_Put.f (k : Nat) (a0 : Int) (a1 : Int) (l2 : List ByteArray) (a3 : ByteArray) : Option (ByteArray × Int) := (trail_Equation.f k a0 a1 l2 a3).bind fun t => if t = true then (if a1 < -1 then some ((⟨#[]⟩ : ByteArray), 1500) else (if a1 ≥ 512 then some ((⟨#[]⟩ : ByteArray), 1500) else record_Put.m k a0 a1 l2 a3)) else some ((⟨#[]⟩ : ByteArray), 1500)
def record_Put.T3 : Bool × List (List Nat × List Nat) := (true, [([], []), ([0], [0]), ([1], [1]), ([], []), ([3], [3]), ([4], [4]), ([5, 2], [5]), ([2, 6], [2, 6]), ([], []), ([8], [8]), ([9], [9]), ([10, 6], [10]), ([7, 11], [7, 11]), ([12, 11, 0, 1, 2, 3, 4, 5, 6, 7, 8, 9, 10, 11, 12], [12])])
def record_Put.B3 : List Nat := [0, 1, 3, 0, 8, 24, 63, 127, 0, 256, 768, 1919, 4095, 8191]
theorem record_Put.tab3 : rtab .any (opsOf Tryd.f8 3) = record_Put.T3 := by kernel_rfl
theorem record_Put.bits3 : waitsOk record_Put.T3.2 record_Put.B3 = true := by kernel_rfl
theorem record_Put.calls (k : Nat) (a0 : Int) (a1 : Int) (A2 : Option Addr) (c2 : Nat) (l2 : List ByteArray) (a3 : ByteArray) (r1 : ByteArray) (r2 : Int) (w : World) (hr2 : Kd.C Kd.string w A2 l2.length l2) (hc2 : l2.length ≤ c2) (h : record_Put.f k a0 a1 l2 a3 = some (r1, r2)) (hG : GOK w) :
 Calls Tryd.prog 8 #[.agg #[.int .i64 a0, .int .i64 a1, .slice A2 l2.length c2, .string a3]] w fun e w' => e = .returned (.tuple #[.string r1, .int .i64 r2]) ∧ Below w.heap.size w w' := by
 have hu := Tryd.underlying24
 have HR2 := a_ hr2
 have HC2 := a_ hc2
 clear hr2 hc2
 have HB := a_ (Below.refl w.heap.size w)
 have HX := a_ (Below.refl w.heap.size w)
 unfold record_Put.f at h
 obtain ⟨t, B1, h⟩ := Option.bind_eq_some_iff.mp h
 have B1 := a_ B1
 cases t with
 | false =>
  rw [if_neg Bool.false_ne_true] at h
  obtain ⟨rfl, rfl⟩ := Prod.mk.inj (Option.some.inj h)
  clear h
  go_enter Tryd.func8, Tryd.ntmps8
  go_wp2_with (first
   | ((with_reducible refine gate_dst (N := 1) rfl ?_); refine boxE_ 1 #[.int .i64 a0, .int .i64 a1, .slice A2 l2.length c2, .string a3] 24 ?_; intro g0 hg wb1 hbox hb; have E0 := a_ (gE_ hg : w.heap.size ≤ g0); have B0 := a_ hbox; (try clear z0 f0 z1 f1 z2 f2 z3 f3); obtain ⟨z0, z1, z2, z3, f0, f1, f2, f3⟩ := bx4_ B0.out; have hs_ := below_step hC_ hb; replace HB := a_ hs_; clear hs_ hb hbox hg)
   | ((with_reducible refine gate_callee (f := 17) rfl ?_); refine goesL_ _ rfl rfl Tryd.func17 (by kernel_rfl) rfl #[.pointer (some ⟨g0, 0, none⟩)] rfl hL_ ?_; (with_reducible refine (trail_Equation.calls k ⟨g0, 0, none⟩ a0 a1 A2 c2 l2 a3 false _ ?s1 ?s2 ?s3 ?s4 ?s5 B1.out (GOK.below hG (below_step HX.out hC_))).mono ?_); (case s1 => exact (blk_cell (hK_ B0.out) 0).trans rfl); (case s2 => exact (blk_cell (hK_ B0.out) 2).trans rfl); (case s3 => exact (blk_cell (hK_ B0.out) 3).trans rfl); (case s4 => exact (Kd.C_below HR2.out (below_step HX.out hC_))); (case s5 => exact HC2.out); rintro e wc1 ⟨rfl, hb⟩; refine ⟨_, rfl, ?_⟩; have hs_ := below_step hC_ hb; replace B0 := a_ (blk_below (g := g0) (o := .cells #[.int .i64 a0, .int .i64 a1, .slice A2 l2.length c2, .string a3] 24 (0, 0)) (by (with_reducible repeat (first | refine blk_drewN ?_ _ | refine blk_drew ?_ | refine blk_alloc ?_ _)); exact (hK_ B0.out)) hb); replace HX := a_ (below_step HX.out hs_); replace HB := a_ (Below.refl wc1.heap.size wc1); clear hs_ hb; (try clear z0 f0 z1 f1 z2 f2 z3 f3); obtain ⟨z0, z1, z2, z3, f0, f1, f2, f3⟩ := bx4_ B0.out))
  go_ret2
  exact ⟨hV_, below_step HX.out hC_⟩
 | true =>
  rw [if_pos rfl] at h
  by_cases c1 : a1 < -1
  case pos =>
   rw [if_pos c1] at h
   obtain ⟨rfl, rfl⟩ := Prod.mk.inj (Option.some.inj h)
   have c1b := decide_eq_true c1
   clear h c1
   go_enter Tryd.func8, Tryd.ntmps8
   go_wp2_with (first
    | ((with_reducible refine gate_dst (N := 1) rfl ?_); refine boxE_ 1 #[.int .i64 a0, .int .i64 a1, .slice A2 l2.length c2, .string a3] 24 ?_; intro g0 hg wb1 hbox hb; have E0 := a_ (gE_ hg : w.heap.size ≤ g0); have B0 := a_ hbox; (try clear z0 f0 z1 f1 z2 f2 z3 f3); obtain ⟨z0, z1, z2, z3, f0, f1, f2, f3⟩ := bx4_ B0.out; have hs_ := below_step hC_ hb; replace HB := a_ hs_; clear hs_ hb hbox hg)
    | ((with_reducible refine gate_callee (f := 17) rfl ?_); refine goesL_ _ rfl rfl Tryd.func17 (by kernel_rfl) rfl #[.pointer (some ⟨g0, 0, none⟩)] rfl hL_ ?_; (with_reducible refine (trail_Equation.calls k ⟨g0, 0, none⟩ a0 a1 A2 c2 l2 a3 true _ ?s1 ?s2 ?s3 ?s4 ?s5 B1.out (GOK.below hG (below_step HX.out hC_))).mono ?_); (case s1 => exact (blk_cell (hK_ B0.out) 0).trans rfl); (case s2 => exact (blk_cell (hK_ B0.out) 2).trans rfl); (case s3 => exact (blk_cell (hK_ B0.out) 3).trans rfl); (case s4 => exact (Kd.C_below HR2.out (below_step HX.out hC_))); (case s5 => exact HC2.out); rintro e wc1 ⟨rfl, hb⟩; refine ⟨_, rfl, ?_⟩; have hs_ := below_step hC_ hb; replace B0 := a_ (blk_below (g := g0) (o := .cells #[.int .i64 a0, .int .i64 a1, .slice A2 l2.length c2, .string a3] 24 (0, 0)) (by (with_reducible repeat (first | refine blk_drewN ?_ _ | refine blk_drew ?_ | refine blk_alloc ?_ _)); exact (hK_ B0.out)) hb); replace HX := a_ (below_step HX.out hs_); replace HB := a_ (Below.refl wc1.heap.size wc1); clear hs_ hb; (try clear z0 f0 z1 f1 z2 f2 z3 f3); obtain ⟨z0, z1, z2, z3, f0, f1, f2, f3⟩ := bx4_ B0.out))
   go_ret2
   exact ⟨hV_, below_step HX.out hC_⟩
  rw [if_neg c1] at h
  have c1b := decide_eq_false c1
  clear c1
  by_cases c2_ : a1 ≥ 512
  case pos =>
   rw [if_pos c2_] at h
   obtain ⟨rfl, rfl⟩ := Prod.mk.inj (Option.some.inj h)
   have c2b : decide (512 ≤ a1) = true := decide_eq_true c2_
   clear h c2_
   go_enter Tryd.func8, Tryd.ntmps8
   go_wp2_with (first
    | ((with_reducible refine gate_dst (N := 1) rfl ?_); refine boxE_ 1 #[.int .i64 a0, .int .i64 a1, .slice A2 l2.length c2, .string a3] 24 ?_; intro g0 hg wb1 hbox hb; have E0 := a_ (gE_ hg : w.heap.size ≤ g0); have B0 := a_ hbox; (try clear z0 f0 z1 f1 z2 f2 z3 f3); obtain ⟨z0, z1, z2, z3, f0, f1, f2, f3⟩ := bx4_ B0.out; have hs_ := below_step hC_ hb; replace HB := a_ hs_; clear hs_ hb hbox hg)
    | ((with_reducible refine gate_callee (f := 17) rfl ?_); refine goesL_ _ rfl rfl Tryd.func17 (by kernel_rfl) rfl #[.pointer (some ⟨g0, 0, none⟩)] rfl hL_ ?_; (with_reducible refine (trail_Equation.calls k ⟨g0, 0, none⟩ a0 a1 A2 c2 l2 a3 true _ ?s1 ?s2 ?s3 ?s4 ?s5 B1.out (GOK.below hG (below_step HX.out hC_))).mono ?_); (case s1 => exact (blk_cell (hK_ B0.out) 0).trans rfl); (case s2 => exact (blk_cell (hK_ B0.out) 2).trans rfl); (case s3 => exact (blk_cell (hK_ B0.out) 3).trans rfl); (case s4 => exact (Kd.C_below HR2.out (below_step HX.out hC_))); (case s5 => exact HC2.out); rintro e wc1 ⟨rfl, hb⟩; refine ⟨_, rfl, ?_⟩; have hs_ := below_step hC_ hb; replace B0 := a_ (blk_below (g := g0) (o := .cells #[.int .i64 a0, .int .i64 a1, .slice A2 l2.length c2, .string a3] 24 (0, 0)) (by (with_reducible repeat (first | refine blk_drewN ?_ _ | refine blk_drew ?_ | refine blk_alloc ?_ _)); exact (hK_ B0.out)) hb); replace HX := a_ (below_step HX.out hs_); replace HB := a_ (Below.refl wc1.heap.size wc1); clear hs_ hb; (try clear z0 f0 z1 f1 z2 f2 z3 f3); obtain ⟨z0, z1, z2, z3, f0, f1, f2, f3⟩ := bx4_ B0.out))
   go_ret2
   exact ⟨hV_, below_step HX.out hC_⟩
  rw [if_neg c2_] at h
  have c2b : decide (512 ≤ a1) = false := decide_eq_false c2_
  clear c2_
  unfold record_Put.m at h
  obtain ⟨t0, B2, h⟩ := Option.bind_eq_some_iff.mp h
  have B2 := a_ B2
  obtain ⟨t1, B3, h⟩ := Option.bind_eq_some_iff.mp h
  have B3 := a_ B3
  by_cases c3 : t0.size + t1.size ≤ 9223372036854775807
  case neg => rw [if_neg c3] at h; cases h
  rw [if_pos c3] at h
  have c3b0 := eq_true c3
  have c3b1 : decide (t0.size + t1.size ≤ 9223372036854775807) = true := decide_eq_true c3
  have c3b2 : (9223372036854775807 < t0.size + t1.size) = False := eq_false (Nat.not_lt.2 c3)
  obtain ⟨t2, B4, h⟩ := Option.bind_eq_some_iff.mp h
  have B4 := a_ B4
  by_cases c4 : (t0 ++ t1).size + t2.size ≤ 9223372036854775807
  case neg => rw [if_neg c4] at h; cases h
  rw [if_pos c4] at h
  have c4b0 := eq_true c4
  have c4b1 : decide ((t0 ++ t1).size + t2.size ≤ 9223372036854775807) = true := decide_eq_true c4
  have c4b2 : (9223372036854775807 < (t0 ++ t1).size + t2.size) = False := eq_false (Nat.not_lt.2 c4)
  have c4b3 : (9223372036854775807 < t0.size + t1.size + t2.size) = False := eq_false (Nat.not_lt.2 (by have h_ := c4; simp only [ByteArray.size_append] at h_; omega))
  have H' := a_ h
  clear h c3 c4
  go_enter Tryd.func8, Tryd.ntmps8
  go_upto_region 3 with (first
   | ((with_reducible refine gate_dst (N := 1) rfl ?_); refine boxE_ 1 #[.int .i64 a0, .int .i64 a1, .slice A2 l2.length c2, .string a3] 24 ?_; intro g0 hg wb1 hbox hb; have E0 := a_ (gE_ hg : w.heap.size ≤ g0); have B0 := a_ hbox; (try clear z0 f0 z1 f1 z2 f2 z3 f3); obtain ⟨z0, z1, z2, z3, f0, f1, f2, f3⟩ := bx4_ B0.out; have hs_ := below_step hC_ hb; replace HB := a_ hs_; clear hs_ hb hbox hg)
   | ((with_reducible refine gate_callee (f := 17) rfl ?_); refine goesL_ _ rfl rfl Tryd.func17 (by kernel_rfl) rfl #[.pointer (some ⟨g0, 0, none⟩)] rfl hL_ ?_; (with_reducible refine (trail_Equation.calls k ⟨g0, 0, none⟩ a0 a1 A2 c2 l2 a3 true _ ?s1 ?s2 ?s3 ?s4 ?s5 B1.out (GOK.below hG (below_step HX.out hC_))).mono ?_); (case s1 => exact (blk_cell (hK_ B0.out) 0).trans rfl); (case s2 => exact (blk_cell (hK_ B0.out) 2).trans rfl); (case s3 => exact (blk_cell (hK_ B0.out) 3).trans rfl); (case s4 => exact (Kd.C_below HR2.out (below_step HX.out hC_))); (case s5 => exact HC2.out); rintro e wc1 ⟨rfl, hb⟩; refine ⟨_, rfl, ?_⟩; have hs_ := below_step hC_ hb; replace B0 := a_ (blk_below (g := g0) (o := .cells #[.int .i64 a0, .int .i64 a1, .slice A2 l2.length c2, .string a3] 24 (0, 0)) (by (with_reducible repeat (first | refine blk_drewN ?_ _ | refine blk_drew ?_ | refine blk_alloc ?_ _)); exact (hK_ B0.out)) hb); replace HX := a_ (below_step HX.out hs_); replace HB := a_ (Below.refl wc1.heap.size wc1); clear hs_ hb; (try clear z0 f0 z1 f1 z2 f2 z3 f3); obtain ⟨z0, z1, z2, z3, f0, f1, f2, f3⟩ := bx4_ B0.out))
  refine start_ (n := 14) (S := fun w' => w'.cell? ⟨g0, 0, none⟩ = some (.int .i64 a0) ∧ w'.cell? ⟨g0, 1, none⟩ = some (.int .i64 a1) ∧ w'.cell? ⟨g0, 2, none⟩ = some (.slice A2 l2.length c2) ∧ w'.cell? ⟨g0, 3, none⟩ = some (.string a3)) (ds := []) #[false, false, false, false, false, false, false, false, false, false, false, false, false, false] (by kernel_rfl) rfl rfl ⟨(blk_cell B0.out 0).trans rfl, (blk_cell B0.out 1).trans rfl, (blk_cell B0.out 2).trans rfl, (blk_cell B0.out 3).trans rfl⟩ (fun hHeld => ?_)
  refine with_tabW record_Put.tab3 record_Put.bits3 (fun HT_ HW_ => ?_)
  refine pB_ 0 19 HT_.out ?_
  refine pB_ 3 22 HT_.out ?_
  refine pB_ 8 27 HT_.out ?_
  refine tB_ 1 20 HT_.out HW_.out hHeld ?_
  refine tB_ 4 23 HT_.out HW_.out hHeld ?_
  refine pB_ 5 24 HT_.out ?_
  refine tB_ 9 28 HT_.out HW_.out hHeld ?_
  refine pB_ 10 29 HT_.out ?_
  refine one_ (i := 2) (N := some 21) #[true, true, true, true, true, true, false, false, true, true, true, false, false, false] rfl rfl (one_of HT_.out (by kernel_rfl)) (by decide) (fun K hK => ?_)
  refine goes_ Tryd.func18 (by kernel_rfl) rfl #[.int .i64 a0, .int .i64 1] (by rfl) rfl rfl hL_ ?_
  (with_reducible refine (record_low.calls k a0 1 t0 _ B2.out).mono ?_)
  rintro e wc2 ⟨rfl, hb⟩
  refine ⟨_, rfl, ?_⟩
  have hs_ := below_step hC_ hb
  replace B0 := a_ (blk_below B0.out hs_)
  replace HX := a_ (below_step HX.out hs_)
  replace HB := a_ (Below.refl wc2.heap.size wc2)
  clear hs_ hb
  refine hK.out _ _ ⟨(blk_cell B0.out 0).trans rfl, (blk_cell B0.out 1).trans rfl, (blk_cell B0.out 2).trans rfl, (blk_cell B0.out 3).trans rfl⟩ (fun hHeld => ?_)
  clear hK K
  refine norm_ (a' := ?_) ?_ ?_
  rotate_left
  · show Act.put _ (some 21) _ = _
    simp only [Act.put, List.setIfInBounds_toArray, List.set_cons_zero, List.set_cons_succ, i64_w, i32_w]
    rfl
  refine one_ (i := 6) (N := some 25) #[true, true, true, true, true, true, true, false, true, true, true, false, false, false] rfl rfl (one_of HT_.out (by kernel_rfl)) (by decide) (fun K hK => ?_)
  refine goes_ Tryd.func18 (by kernel_rfl) rfl #[.int .i64 (wrap64 (a1 + 1)), .int .i64 2] (by rfl) rfl rfl hL_ ?_
  (with_reducible refine (record_low.calls k (wrap64 (a1 + 1)) 2 t1 _ B3.out).mono ?_)
  rintro e wc3 ⟨rfl, hb⟩
  refine ⟨_, rfl, ?_⟩
  have hs_ := below_step hC_ hb
  replace B0 := a_ (blk_below B0.out hs_)
  replace HX := a_ (below_step HX.out hs_)
  replace HB := a_ (Below.refl wc3.heap.size wc3)
  clear hs_ hb
  refine hK.out _ _ ⟨(blk_cell B0.out 0).trans rfl, (blk_cell B0.out 1).trans rfl, (blk_cell B0.out 2).trans rfl, (blk_cell B0.out 3).trans rfl⟩ (fun hHeld => ?_)
  clear hK K
  refine norm_ (a' := ?_) ?_ ?_
  rotate_left
  · show Act.put _ (some 25) _ = _
    simp only [Act.put, List.setIfInBounds_toArray, List.set_cons_zero, List.set_cons_succ, i64_w, i32_w]
    rfl
  refine pB_ 7 26 HT_.out ?_
  refine one_ (i := 11) (N := some 30) #[true, true, true, true, true, true, true, true, true, true, true, true, false, false] rfl rfl (one_of HT_.out (by kernel_rfl)) (by decide) (fun K hK => ?_)
  refine goes_ Tryd.func18 (by kernel_rfl) rfl #[.int .i64 (l2.length : Int), .int .i64 1] (by rfl) rfl rfl hL_ ?_
  (with_reducible refine (record_low.calls k (l2.length : Int) 1 t2 _ B4.out).mono ?_)
  rintro e wc4 ⟨rfl, hb⟩
  refine ⟨_, rfl, ?_⟩
  have hs_ := below_step hC_ hb
  replace B0 := a_ (blk_below B0.out hs_)
  replace HX := a_ (below_step HX.out hs_)
  replace HB := a_ (Below.refl wc4.heap.size wc4)
  clear hs_ hb
  refine hK.out _ _ ⟨(blk_cell B0.out 0).trans rfl, (blk_cell B0.out 1).trans rfl, (blk_cell B0.out 2).trans rfl, (blk_cell B0.out 3).trans rfl⟩ (fun hHeld => ?_)
  clear hK K
  refine norm_ (a' := ?_) ?_ ?_
  rotate_left
  · show Act.put _ (some 30) _ = _
    simp only [Act.put, List.setIfInBounds_toArray, List.set_cons_zero, List.set_cons_succ, i64_w, i32_w]
    rfl
  refine pB_ 12 31 HT_.out ?_
  refine pB_ 13 4 HT_.out ?_
  refine done_ (done_of HT_.out (by kernel_rfl)) ?_
  (try clear z0 f0 z1 f1 z2 f2 z3 f3)
  obtain ⟨z0, z1, z2, z3, f0, f1, f2, f3⟩ := bx4_ B0.out
  go_wp2
  go_loopg [4, 35] k (fun kq v4 v0 w' => ∃ (o : ByteArray) (x : Int), v4 = .string o ∧ v0 = .int .i64 x ∧ Aside0 (record_Put.l0 kq o x l2 a3 = some (r1, r2)) ∧ Aside0 (kq ≤ k) ∧ Aside0 (w'.heap[g0]? = some (.cells #[.int .i64 a0, .int .i64 a1, .slice A2 l2.length c2, .string a3] 24 (0, 0))) ∧ Aside0 (Below w.heap.size w w'))
  case atStart => exact ⟨_, _, hW_, hW_, H', ⟨Nat.le_refl _⟩, ⟨(hK_ B0.out)⟩, ⟨below_step HX.out hC_⟩⟩
  case round =>
   clear H' HB HX B0
   obtain ⟨o, x, rfl, rfl, HA, HK2, B0, HB⟩ := hrel
   cases gk with
   | zero => exact absurd HA.out (by simp [record_Put.l0])
   | succ k2 =>
    have H := HA.out
    clear HA
    simp only [record_Put.l0] at H
    by_cases c22 : x < (l2.length : Int)
    case neg =>
     rw [if_neg c22] at H
     have c22b0 : decide (x < (l2.length : Int)) = false := decide_eq_false c22
     clear c22
     obtain ⟨t, A28, H⟩ := Option.bind_eq_some_iff.mp H
     have A28 := a_ A28
     replace H := ifI_ H; obtain ⟨c29, H⟩ := H
     have c29b0 := eq_true c29
     have c29b1 : decide (o.size + t.size ≤ 9223372036854775807) = true := decide_eq_true c29
     have c29b2 : (9223372036854775807 < o.size + t.size) = False := eq_false (Nat.not_lt.2 c29)
     simp only [Option.some.injEq, Prod.mk.injEq] at H
     obtain ⟨rfl, rfl⟩ := H
     obtain ⟨z4, z5, z6, z7, f4, f5, f6, f7⟩ := bx4_ B0.out
     go_wp2_with (first | ((with_reducible refine gate_callee (f := 19) rfl ?_); refine goesL_ _ rfl rfl Tryd.func19 (by kernel_rfl) rfl #[.string a3] rfl hL_ ?_; (with_reducible refine (record_text.calls k2 a3 t _ A28.out).mono ?_); rintro e w0 ⟨rfl, hb⟩; refine ⟨_, rfl, ?_⟩; replace HB := a_ (below_step hC_ hb); clear hb))
     go_ret2
     exact ⟨hV_, hC_⟩
    rw [if_pos c22] at H
    have c22b0 : decide (x < (l2.length : Int)) = true := decide_eq_true c22
    clear c22
    replace H := ifI_ H; obtain ⟨c23, H⟩ := H
    have c23b0 : decide (0 ≤ x) = true := decide_eq_true c23
    clear c23
    obtain ⟨t, A24, H⟩ := Option.bind_eq_some_iff.mp H
    have A24 := a_ A24
    replace H := ifI_ H; obtain ⟨c25, H⟩ := H
    have c25b0 := eq_true c25
    have c25b1 : decide (o.size + t.size ≤ 9223372036854775807) = true := decide_eq_true c25
    have c25b2 : (9223372036854775807 < o.size + t.size) = False := eq_false (Nat.not_lt.2 c25)
    have H' := a_ H
    clear H
    have p272 : 0 ≤ (x : Int) := of_decide_eq_true hA_
    have q272 : x < (l2.length : Int) := of_decide_eq_true hA_
    obtain ⟨d0, e272, h0⟩ := Kd.at_string HR2.out x p272 q272
    cases e272
    replace h0 := cl_ HB.out h0
    replace p272 := eq_true p272
    replace q272 := eq_true q272
    go_wp2_with (first | ((with_reducible refine gate_callee (f := 19) rfl ?_); refine goesL_ _ rfl rfl Tryd.func19 (by kernel_rfl) rfl #[.string (rdOf ByteArray.empty l2 x)] rfl hL_ ?_; (with_reducible refine (record_text.calls k2 (rdOf ByteArray.empty l2 x) t _ A24.out).mono ?_); rintro e w1 ⟨rfl, hb⟩; refine ⟨_, rfl, ?_⟩; replace B0 := a_ (bB_ B0.out hb); replace HB := a_ (below_step hC_ hb); clear hb))
    go_roundg k2
    case measure => have := HK2.out; omega
    case rel => exact ⟨(o ++ t), (wrap64 (x + 1)), hW_, hW_, H', ⟨by have := HK2.out; omega⟩, ⟨(hK_ B0.out)⟩, ⟨hC_⟩⟩

set_option maxHeartbeats 8000000
set_option maxRecDepth 100000
attribute [local go_sem] max2_int min2_int max_two min_two max_three min_three max_four min_four   -- for this text's walks alone
set_option linter.unusedVariables false
set_option linter.unusedSimpArgs false

def record_taker_text.f (k : Nat) (s0_0 : ByteArray) : Option (ByteArray × ByteArray) := (record_taker_number.f k s0_0 2).bind fun bt147 => ((record_taker_take.f bt147.2 bt147.1).bind fun bt149 => (some (bt149.1, bt149.2)))
theorem record_taker_text.calls (k : Nat) (g : Nat) (s0_0 : ByteArray) (r1 : ByteArray) (r2 : ByteArray) (w0 w : World) (hI : IsS52 w0 w g s0_0) (hB : Below w0.heap.size w0 w) (h : record_taker_text.f k s0_0 = some (r1, r2)) :
 Calls Tryd.prog 25 #[.pointer (some ⟨g, 0, none⟩)] w fun e w' => e = .returned (.string r1) ∧ IsS52 w0 w' g r2 ∧ Below w0.heap.size w0 w' ∧ KeepBut w w' g none := by
 have HI0 := a_ hI
 have HK := a_ (KeepBut.refl w g none)
 have HL := a_ hB.size
 clear hI
 have HW0 := a_ hB.size
 have HB := a_ hB
 clear hB
 have H := h; unfold record_taker_text.f at H
 clear h
 replace H := Option.bind_eq_some_iff.mp H
 obtain ⟨⟨t0, t1⟩, A20, H⟩ := H
 try dsimp only at H
 have A2 := a_ A20
 clear A20
 replace H := Option.bind_eq_some_iff.mp H
 obtain ⟨⟨t2, t3⟩, A30, H⟩ := H
 try dsimp only at H
 have A3 := a_ A30
 clear A30
 simp only [Option.some.injEq, Prod.mk.injEq] at H
 obtain ⟨rfl, rfl⟩ := H
 go_enter Tryd.func25, Tryd.ntmps25
 go_wp2_with (first | ((with_reducible refine gate_callee (f := 24) rfl ?_); refine goesL_ (some 5) rfl rfl Tryd.func24 (by kernel_rfl) rfl #[.pointer (some ⟨g, 0, none⟩), .int .i64 2] rfl hL_ ?_; (with_reducible refine (record_taker_number.calls k g s0_0 2 t0 t1 w0 _ ?s1 ?s2 A2.out).mono ?_); (case s1 => repeat (first | (with_reducible first | exact HI0.out | apply IsS52.alloc | apply IsS52.drewN | apply IsS52.drew | apply IsS52.set_0) | exact HI0.out)); (case s2 => repeat (first | (with_reducible first | exact HB.out | apply below_alloc | apply pw_below_drewN | apply below_drew1 | refine below_set ?_ (IsS52.ge HI0.out)) | exact HB.out)); rintro e w4 ⟨rfl, hi, hb, hk⟩; refine ⟨_, rfl, ?_⟩; replace HK := a_ (KeepBut.trans (by repeat (first | (with_reducible first | exact HK.out | apply KeepBut.set_ | apply keep_drewN | apply keep_drew | apply keep_alloc) | exact HK.out)) hk (.inl rfl)); replace HB := a_ (hb); replace HI0 := a_ (hi); (try clear hb); (try clear hb2); (try clear hk); (try clear hi)) | ((with_reducible refine gate_callee (f := 32) rfl ?_); refine goesL_ (some 6) rfl rfl Tryd.func32 (by kernel_rfl) rfl #[.pointer (some ⟨g, 0, none⟩), .int .i64 t0] rfl hL_ ?_; (with_reducible refine (record_taker_take.calls g t1 t0 t2 t3 w0 _ ?s1 ?s2 A3.out).mono ?_); (case s1 => repeat (first | (with_reducible first | exact HI0.out | apply IsS52.alloc | apply IsS52.drewN | apply IsS52.drew | apply IsS52.set_0) | exact HI0.out)); (case s2 => repeat (first | (with_reducible first | exact HB.out | apply below_alloc | apply pw_below_drewN | apply below_drew1 | refine below_set ?_ (IsS52.ge HI0.out)) | exact HB.out)); rintro e w5 ⟨rfl, hi, hb, hk⟩; refine ⟨_, rfl, ?_⟩; replace HK := a_ (KeepBut.trans (by repeat (first | (with_reducible first | exact HK.out | apply KeepBut.set_ | apply keep_drewN | apply keep_drew | apply keep_alloc) | exact HK.out)) hk (.inl rfl)); replace HB := a_ (hb); replace HI0 := a_ (hi); (try clear hb); (try clear hb2); (try clear hk); (try clear hi)))
 go_ret
 exact ⟨hV_, by repeat (first | (with_reducible first | exact HI0.out | apply IsS52.alloc | apply IsS52.drewN | apply IsS52.drew | apply IsS52.set_0) | exact HI0.out), by repeat (first | (with_reducible first | exact HB.out | apply below_alloc | apply pw_below_drewN | apply below_drew1 | refine below_set ?_ (IsS52.ge HI0.out)) | exact HB.out), by repeat (first | (with_reducible first | exact HK.out | apply KeepBut.set_ | apply keep_drewN | apply keep_drew | apply keep_alloc) | exact HK.out)⟩

set_option maxHeartbeats 8000000
set_option maxRecDepth 100000
attribute [local go_sem] max2_int min2_int max_two min_two max_three min_three max_four min_four   -- for this text's walks alone
set_option linter.unusedVariables false
set_option linter.unusedSimpArgs false

def record_Get.l0 : Nat → Int → Int → List ByteArray → ByteArray → Option (List ByteArray × ByteArray)
 | 0, _, _, _, _ => none
 | k + 1, m, x, l, q => if x < m then (record_taker_text.f k q).bind fun b => (if l.length < 8 then record_Get.l0 k m (wrap64 (x + 1)) (l ++ [b.1]) b.2 else none) else some (l, q)
def record_Get.f (k : Nat) (s : ByteArray) : Option (Int × Int × List ByteArray × ByteArray × Int) := (record_taker_number.f k s 1).bind fun b1 => (record_taker_number.f k b1.2 2).bind fun b2 => (record_taker_number.f k b2.2 1).bind fun b3 => (record_Get.l0 k (mn b3.1 3) 0 [] b3.2).bind fun q => (record_taker_text.f k q.2).bind fun r => (record_Put.f k b1.1 (wrap64 (b2.1 - 1)) q.1 r.1).bind fun p => if p.2 = 0 then (if p.1.toList = s.toList then some (b1.1, wrap64 (b2.1 - 1), q.1, r.1, 0) else some (0, 0, [], (⟨#[]⟩ : ByteArray), 1500)) else some (0, 0, [], (⟨#[]⟩ : ByteArray), 1500)
theorem blk_keepb {W W2 : World} {g g' : Nat} {o : Obj} (h : W.heap[g']? = some o) (hk : KeepBut W W2 g none) (hne : g' ≠ g) : W2.heap[g']? = some o := (hk.2 g' (blk_lt h) hne (by simp)).trans h
def record_Get.T5 : Bool × List (List Nat × List Nat) := (true, [([], []), ([0], [0]), ([], []), ([2], [2]), ([3], [3]), ([1, 4, 3], [1, 4]), ([0, 1, 2, 3, 4, 5], []), ([6, 5, 5, 0, 1, 2, 3, 4, 5], [5, 6])])
def record_Get.B5 : List Nat := [0, 1, 0, 4, 12, 31, 63, 127]
theorem record_Get.tab5 : rtab .any (opsOf Tryd.f10 5) = record_Get.T5 := by kernel_rfl
theorem record_Get.bits5 : waitsOk record_Get.T5.2 record_Get.B5 = true := by kernel_rfl
theorem record_Get.calls (k : Nat) (s : ByteArray) (r1 r2 : Int) (r3 : List ByteArray) (r4 : ByteArray) (r5 : Int) (w : World) (h : record_Get.f k s = some (r1, r2, r3, r4, r5)) (hG : GOK w) :
 Calls Tryd.prog 10 #[.string s] w fun e w' => ∃ v2_ : Value, e = .returned (.tuple #[.agg #[.int .i64 r1, .int .i64 r2, v2_, .string r4], .int .i64 r5]) ∧ Kd.R Kd.string 9 w' w.heap.size (fun _ => True) v2_ r3 ∧ Below w.heap.size w w' := by
 have huN := Tryd.underlying24
 have huT := Tryd.underlying52
 have HB := a_ (Below.refl w.heap.size w)
 unfold record_Get.f at h
 obtain ⟨⟨n0, s1⟩, B1, h⟩ := Option.bind_eq_some_iff.mp h
 dsimp only at h
 obtain ⟨⟨n1, s2⟩, B2, h⟩ := Option.bind_eq_some_iff.mp h
 dsimp only at h
 obtain ⟨⟨n2, s3⟩, B3, h⟩ := Option.bind_eq_some_iff.mp h
 dsimp only at h
 obtain ⟨⟨ql, qs⟩, B4, h⟩ := Option.bind_eq_some_iff.mp h
 dsimp only at h
 obtain ⟨⟨t4, q5⟩, B5, h⟩ := Option.bind_eq_some_iff.mp h
 dsimp only at h
 obtain ⟨⟨p1, p2⟩, B6, h⟩ := Option.bind_eq_some_iff.mp h
 dsimp only at h
 obtain ⟨nn, hnn⟩ : ∃ y, wrap64 (n1 - 1) = y := ⟨_, rfl⟩
 obtain ⟨m, hm⟩ : ∃ y, mn n2 3 = y := ⟨_, rfl⟩
 rw [hnn] at B6 h
 rw [hm] at B4
 have hnnw : IntKind.i64.wrap (n1 - 1) = nn := (i64_w _).trans hnn
 have hm_ : (if 3 < n2 then 3 else n2) = m := hm
 have B1 := a_ B1
 have B2 := a_ B2
 have B3 := a_ B3
 have H' := a_ B4
 have B5 := a_ B5
 have B6 := a_ B6
 have HH := a_ h
 clear h
 go_enter Tryd.func10, Tryd.ntmps10
 go_wp2_with (first
  | ((with_reducible refine gate_dst (N := 2) rfl ?_); refine boxE_ 2 #[.int .i64 0, .int .i64 0, .slice none 0 0, .string ⟨#[]⟩] 24 ?_; intro gR hg w2 hbox hb; have GR := a_ (gE_ hg : w.heap.size ≤ gR); have BR := a_ hbox; replace HB := a_ (below_step hC_ hb); clear hg hbox hb)
  | ((with_reducible refine gate_dst (N := 10) rfl ?_); refine boxE_ 10 #[.string s] 52 ?_; intro gT hg w3 hbox hb; have hRT := (bL_ BR.out hg : gR ≠ gT); have HI := a_ (show IsS52 w w3 gT s from ⟨hbox, gE_ hg⟩); replace BR := a_ (bB_ BR.out hb); replace HB := a_ (below_step hC_ hb); clear hg hbox hb)
  | ((with_reducible refine gate_callee (f := 24) rfl ?_); refine goesL_ _ rfl rfl Tryd.func24 (by kernel_rfl) rfl #[.pointer (some ⟨gT, 0, none⟩), .int .i64 1] rfl hL_ ?_; (with_reducible refine (record_taker_number.calls k gT s 1 n0 s1 w _ ?hi ?hb B1.out).mono ?_); (case hi => exact ⟨hK_ HI.out.1, HI.out.2⟩); (case hb => exact hC_); rintro e w4 ⟨rfl, hI, hB, hK⟩; refine ⟨_, rfl, ?_⟩; replace BR := a_ (blk_keepb (hK_ BR.out) hK hRT); replace HI := a_ hI; replace HB := a_ hB; clear hI hB hK)
  | ((with_reducible refine gate_callee (f := 24) rfl ?_); refine goesL_ _ rfl rfl Tryd.func24 (by kernel_rfl) rfl #[.pointer (some ⟨gT, 0, none⟩), .int .i64 2] rfl hL_ ?_; (with_reducible refine (record_taker_number.calls k gT s1 2 n1 s2 w _ ?hi ?hb B2.out).mono ?_); (case hi => exact ⟨hK_ HI.out.1, HI.out.2⟩); (case hb => exact hC_); rintro e w5 ⟨rfl, hI, hB, hK⟩; refine ⟨_, rfl, ?_⟩; replace BR := a_ (blk_keepb (hK_ BR.out) hK hRT); replace HI := a_ hI; replace HB := a_ hB; clear hI hB hK)
  | ((with_reducible refine gate_dst (N := 5) rfl ?_); refine boxE_ 5 #[.int .i64 0, .int .i64 0, .slice none 0 0, .string ⟨#[]⟩] 24 ?_; intro gN hg w6 hbox hb; have GN := a_ (gE_ hg : w.heap.size ≤ gN); have hRN := (bL_ BR.out hg : gR ≠ gN); have hTN := (bL_ HI.out.1 hg : gT ≠ gN); have hNT := (bG_ HI.out.1 hg : gN ≠ gT); have hNR := (bG_ BR.out hg : gN ≠ gR); have BN := a_ hbox; replace BR := a_ (bB_ BR.out hb); replace HI := a_ (show IsS52 w w6 gT s2 from ⟨bB_ HI.out.1 hb, HI.out.2⟩); replace HB := a_ (below_step hC_ hb); clear hg hbox hb; obtain ⟨hz0, hz1, hz2, hz3, hf0, hf1, hf2, hf3⟩ := bx4_ BN.out)
  | ((with_reducible refine gate_callee (f := 24) rfl ?_); refine goesL_ _ rfl rfl Tryd.func24 (by kernel_rfl) rfl #[.pointer (some ⟨gT, 0, none⟩), .int .i64 1] rfl hL_ ?_; (with_reducible refine (record_taker_number.calls k gT s2 1 n2 s3 w _ ?hi ?hb B3.out).mono ?_); (case hi => exact ⟨by (with_reducible repeat (first | refine blk_drewN ?_ _ | refine blk_drew ?_ | refine blk_alloc ?_ _)); exact (bF_ (bF_ (bF_ (bF_ (hK_ HI.out.1) hTN) hTN) hTN) hTN), HI.out.2⟩); (case hb => exact hC_); rintro e w7 ⟨rfl, hI, hB, hK⟩; refine ⟨_, rfl, ?_⟩; replace BR := a_ (blk_keepb (by (with_reducible repeat (first | refine blk_drewN ?_ _ | refine blk_drew ?_ | refine blk_alloc ?_ _)); exact (bF_ (bF_ (bF_ (bF_ (hK_ BR.out) hRN) hRN) hRN) hRN)) hK hRT); have BN2 := a_ (blk_keepb (o := .cells #[.int .i64 n0, .int .i64 nn, .slice none 0 0, .string ⟨#[]⟩] 24 (0, 0)) (by (with_reducible repeat (first | refine blk_drewN ?_ _ | refine blk_drew ?_ | refine blk_alloc ?_ _)); exact (bP_ (bP_ (bP_ (bP_ (hK_ BN.out)))))) hK hNT); clear BN; have BN := BN2; clear BN2; replace HI := a_ hI; replace HB := a_ hB; clear hI hB hK))
 go_loopg [20] k (fun kq v1 w' => ∃ (x : Int) (l : List ByteArray) (q : ByteArray) (v : Value), v1 = .int .i64 x ∧ Aside0 (record_Get.l0 kq m x l q = some (ql, qs)) ∧ Aside0 (kq ≤ k) ∧ Aside0 (Kd.R Kd.string 9 w' w.heap.size (fun _ => True) v l) ∧ Aside0 (w'.heap[gN]? = some (.cells #[.int .i64 n0, .int .i64 nn, v, .string ⟨#[]⟩] 24 (0, 0))) ∧ Aside0 (w'.heap[gR]? = some (.cells #[.int .i64 0, .int .i64 0, .slice none 0 0, .string ⟨#[]⟩] 24 (0, 0))) ∧ Aside0 (IsS52 w w' gT q) ∧ Aside0 (Below w.heap.size w w'))
 case atStart => exact ⟨0, [], s3, .slice none 0 0, hW_, H', ⟨Nat.le_refl _⟩, ⟨Kd.R_nil _ _ _ _ _⟩, ⟨hK_ BN.out⟩, ⟨hK_ BR.out⟩, ⟨⟨hK_ HI.out.1, HI.out.2⟩⟩, ⟨hC_⟩⟩
 case round =>
  clear H' HB HI BN BR
  obtain ⟨x, l, q, v, rfl, HA, HK2, HO, BN, BR, HI, HB⟩ := hrel
  obtain ⟨A, c, rfl⟩ := Kd.R_slice HO.out
  cases gk with
  | zero => exact absurd HA.out (by simp [record_Get.l0])
  | succ k2 =>
   have H := HA.out
   clear HA
   simp only [record_Get.l0] at H
   by_cases c22 : x < m
   case neg =>
    rw [if_neg c22] at H
    have c22b0 : decide (x < m) = false := decide_eq_false c22
    clear c22
    obtain ⟨rfl, rfl⟩ := Prod.mk.inj (Option.some.inj H)
    clear H
    go_upto_region 9 with (first
     | ((with_reducible refine gate_callee (f := 25) rfl ?_); refine goesL_ _ rfl rfl Tryd.func25 (by kernel_rfl) rfl #[.pointer (some ⟨gT, 0, none⟩)] rfl hL_ ?_; (with_reducible refine (record_taker_text.calls k gT q t4 q5 w _ ?hi ?hb B5.out).mono ?_); (case hi => exact ⟨hK_ HI.out.1, HI.out.2⟩); (case hb => exact hC_); rintro e w8 ⟨rfl, hI, hB, hK⟩; refine ⟨_, rfl, ?_⟩; replace HO := a_ (Kd.R_mono (Kd.R_keep (IsS52.apart (show IsS52 w _ gT _ from ⟨hK_ HI.out.1, HI.out.2⟩) (hR_ HO.out) (by decide)) hK (fun _ h_ => h_.2)) (fun _ h_ => h_.1)); replace BR := a_ (blk_keepb (hK_ BR.out) hK hRT); replace BN := a_ (blk_keepb (hK_ BN.out) hK hNT); replace HI := a_ hI; replace HB := a_ hB; clear hI hB hK; obtain ⟨hz0, hz1, hz2, hz3, hf0, hf1, hf2, hf3⟩ := bx4_ BN.out)
     | ((with_reducible refine gate_callee (f := 8) rfl ?_); refine goesL_ _ rfl rfl Tryd.func8 (by kernel_rfl) rfl #[.agg #[.int .i64 n0, .int .i64 nn, .slice A l.length c, .string t4]] rfl hL_ ?_; (with_reducible refine (record_Put.calls k n0 nn A c l t4 p1 p2 _ ?hr ?hc B6.out (GOK.below hG hC_)).mono ?_); (case hr => exact (Kd.R_reads' (Kd.R_mono (rF_ (Kd.R_types (hR_ HO.out) (hK_ BN.out) (by decide))) (fun _ h_ => h_.1))).2.2); (case hc => exact (Kd.R_reads' HO.out).2.1); rintro e w9 ⟨rfl, hb⟩; refine ⟨_, rfl, ?_⟩; have P0 := a_ (Kd.R_below (Kd.R_mono (rF_ (Kd.R_types (hR_ HO.out) (hK_ BN.out) (by decide))) (fun _ h_ => h_.1)) hb); have BR2 := a_ (blk_below (bF_ (hK_ BR.out) hRN) hb); have BN2 := a_ (blk_below (g := gN) (o := .cells #[.int .i64 n0, .int .i64 nn, .slice A l.length c, .string t4] 24 (0, 0)) (bP_ (hK_ BN.out)) hb); replace HB := a_ (below_step hC_ hb); clear hb HO BR BN; have HO := P0; have BR := BR2; have BN := BN2; clear P0 BR2 BN2; obtain ⟨i0, i1, i2, i3, h0, h1, h2, h3⟩ := bx4_ BN.out; obtain ⟨hu0, hu1, hu2, hu3, hv0, hv1, hv2, hv3⟩ := bx4_ BR.out))
    have h := HH.out
    clear HH
    by_cases c30 : p2 = 0
    case neg =>
     rw [if_neg c30] at h
     simp only [Option.some.injEq, Prod.mk.injEq] at h
     obtain ⟨rfl, rfl, rfl, rfl, rfl⟩ := h
     have c30a : (p2 == 0) = false := beq_eq_false_iff_ne.mpr c30
     have c30b : (p2 != 0) = true := bne_iff_ne.mpr c30
     clear c30
     go_wp2
     refine bodyPost_ret (results_ct rfl _ _ gR 24 #[.int .i64 0, .int .i64 0, .slice none 0 0, .string ⟨#[]⟩] (0, 0) _ rfl (by (with_reducible repeat (first | refine blk_drewN ?_ _ | refine blk_drew ?_ | refine blk_alloc ?_ _)); exact (bP_ (bP_ (bP_ (bP_ (hK_ BR.out)))))) huN rfl (by kernel_rfl)) rfl ?_
     exact ⟨_, hV_, Kd.R_nil _ _ _ _ _, hC_⟩
    rw [if_pos c30] at h
    have c30a : (p2 == 0) = true := beq_iff_eq.mpr c30
    have c30b : (p2 != 0) = false := bne_eq_false_iff_eq.mpr c30
    clear c30
    by_cases c31 : p1.toList = s.toList
    case neg =>
     rw [if_neg c31] at h
     simp only [Option.some.injEq, Prod.mk.injEq] at h
     obtain ⟨rfl, rfl, rfl, rfl, rfl⟩ := h
     have c31a : (p1.toList == s.toList) = false := beq_eq_false_iff_ne.mpr c31
     have c31b : (p1.toList != s.toList) = true := bne_iff_ne.mpr c31
     clear c31
     go_wp2
     refine bodyPost_ret (results_ct rfl _ _ gR 24 #[.int .i64 0, .int .i64 0, .slice none 0 0, .string ⟨#[]⟩] (0, 0) _ rfl (by (with_reducible repeat (first | refine blk_drewN ?_ _ | refine blk_drew ?_ | refine blk_alloc ?_ _)); exact (bP_ (bP_ (bP_ (bP_ (hK_ BR.out)))))) huN rfl (by kernel_rfl)) rfl ?_
     exact ⟨_, hV_, Kd.R_nil _ _ _ _ _, hC_⟩
    rw [if_pos c31] at h
    simp only [Option.some.injEq, Prod.mk.injEq] at h
    obtain ⟨rfl, rfl, rfl, rfl, rfl⟩ := h
    have c31a : (p1.toList == s.toList) = true := beq_iff_eq.mpr c31
    have c31b : (p1.toList != s.toList) = false := bne_eq_false_iff_eq.mpr c31
    clear c31
    go_wp2
    refine bodyPost_ret (results_ct rfl _ _ gR 24 #[.int .i64 n0, .int .i64 nn, .slice A l.length c, .string t4] (0, 0) _ rfl (by (with_reducible repeat (first | refine blk_drewN ?_ _ | refine blk_drew ?_ | refine blk_alloc ?_ _)); exact (bP_ (bP_ (bP_ (bP_ (hK_ BR.out)))))) huN rfl (by kernel_rfl)) rfl ?_
    exact ⟨_, hV_, by skip; (with_reducible repeat (first | apply Kd.R_alloc | apply Kd.R_drewN | apply Kd.R_drew)); exact Kd.R_mono (rF_ (rF_ (rF_ (rF_ (Kd.R_types (hR_ HO.out) (hK_ BR.out) (by decide)))))) (fun _ h_ => h_.1), hC_⟩
   rw [if_pos c22] at H
   have c22b0 : decide (x < m) = true := decide_eq_true c22
   clear c22
   obtain ⟨⟨tt, q2⟩, A24, H⟩ := Option.bind_eq_some_iff.mp H
   have A24 := a_ A24
   dsimp only at H
   replace H := ifI_ H; obtain ⟨c25, H⟩ := H
   have LM := a_ c25
   obtain ⟨y, hy⟩ : ∃ y, y = l ++ [tt] := ⟨_, rfl⟩
   rw [← hy] at H
   have NY := a_ hy
   have H' := a_ H
   clear H hy c25
   try go_wp2
   refine start_ (n := 8) (S := fun w' => w'.cell? ⟨gN, 2, none⟩ = some (.slice A l.length c)) (ds := [7]) #[false, false, false, false, false, false, false, false] (by kernel_rfl) rfl rfl ((blk_cell BN.out 2).trans rfl) (fun hHeld => ?_)
   refine with_tabW record_Get.tab5 record_Get.bits5 (fun HT_ HW_ => ?_)
   refine pB_ 0 22 HT_.out ?_
   refine pB_ 2 24 HT_.out ?_
   refine tB_ 1 23 HT_.out HW_.out hHeld ?_
   refine one_ (i := 3) (N := some 25) #[true, true, true, true, false, false, false, false] rfl rfl (one_of HT_.out (by kernel_rfl)) (by decide) (fun K hK => ?_)
   refine goes_ Tryd.func25 (by kernel_rfl) rfl #[.pointer (some ⟨gT, 0, none⟩)] (by rfl) rfl rfl hL_ ?_
   with_reducible refine (record_taker_text.calls k2 gT q tt q2 w _ ?hi ?hb A24.out).mono ?_
   (case hi => exact ⟨hK_ HI.out.1, HI.out.2⟩)
   (case hb => exact hC_)
   rintro e w8 ⟨rfl, hI, hB, hkk⟩
   refine ⟨_, rfl, ?_⟩
   replace HO := a_ (Kd.R_mono (Kd.R_keep (IsS52.apart (show IsS52 w _ gT _ from ⟨hK_ HI.out.1, HI.out.2⟩) (hR_ HO.out) (by decide)) hkk (fun _ h_ => h_.2)) (fun _ h_ => h_.1))
   replace BR := a_ (blk_keepb (hK_ BR.out) hkk hRT)
   replace BN := a_ (blk_keepb (hK_ BN.out) hkk hNT)
   replace HI := a_ hI
   replace HB := a_ hB
   clear hI hB hkk
   refine hK.out _ _ ((blk_cell BN.out 2).trans rfl) (fun hHeld => ?_)
   clear hK K
   refine norm_ (a' := ?_) ?_ ?_
   rotate_left
   · show Act.put _ (some 25) _ = _
     simp only [Act.put, List.setIfInBounds_toArray, List.set_cons_zero, List.set_cons_succ, i64_w, i32_w]
     rfl
   refine one_ (i := 4) (N := some 26) #[true, true, true, true, true, false, false, false] rfl rfl (one_of HT_.out (by kernel_rfl)) (by decide) (fun K hK => ?_)
   refine value_ (w1 := ?_) (v := ?_) (by rfl) rfl ?_ ?_
   rotate_left 2
   · go_simp
     constructor
     · rfl
     · rfl
   refine hK.out _ _ ((blk_cell (blk_alloc BN.out _) 2).trans rfl) (fun hHeld => ?_)
   clear hK K
   refine norm_ (a' := ?_) ?_ ?_
   rotate_left
   · show Act.put _ (some 26) _ = _
     simp only [Act.put, List.setIfInBounds_toArray, List.set_cons_zero, List.set_cons_succ, i64_w, i32_w]
     rfl
   refine one_ (i := 5) (N := some 27) #[true, true, true, true, true, true, false, false] rfl rfl (one_of HT_.out (by kernel_rfl)) (by decide) (fun K hK => ?_)
   refine Kd.R_append_step Kd.string (w0 := w) w.heap.size (by rfl) (.tmp 23) (.tmp 26) 22 9 (.string ⟨#[]⟩) 16 rfl Tryd.underlying22 info9 rfl (by decide) (by omega) (.slice A l.length c) l tt [.string tt] (fun _ => True) (fun _ => False) rfl rfl ?aP (fun _ hk => hk.elim) ?aF ?aO ?aB ?aS ?aL ?_
   (case aP => exact rfl)
   (case aB => exact hC_)
   (case aF => exact fun _ _ => trivial)
   (case aO => exact (hR_ HO.out))
   (case aS => exact (below_size hC_))
   (case aL => have := LM.out; omega)
   intro v0 w9 ho hb hg hat
   rw [← NY.out] at ho
   have hne_ := IsS52.own_ne HI.out HO.out (by decide)
   replace BN := a_ (blk_grown (hK_ BN.out) hg (Kd.R_ne HO.out BN.out (by decide)))
   replace BR := a_ (blk_grown (hK_ BR.out) hg (Kd.R_ne HO.out BR.out (by decide)))
   replace HI := a_ (show IsS52 w w9 gT q2 from ⟨blk_grown (hK_ HI.out.1) hg hne_, HI.out.2⟩)
   replace HB := a_ hb
   replace HO := a_ ho
   clear ho hb hg hat hne_
   obtain ⟨A2, c2, rfl⟩ := Kd.R_slice HO.out
   refine hK.out _ _ ((blk_cell BN.out 2).trans rfl) (fun hHeld => ?_)
   clear hK K
   refine norm_ (a' := ?_) ?_ ?_
   rotate_left
   · show Act.put _ (some 27) _ = _
     simp only [Act.put, List.setIfInBounds_toArray, List.set_cons_zero, List.set_cons_succ, i64_w, i32_w]
     rfl
   refine pB_ 6 28 HT_.out ?_
   refine last_ (i := 7) (N := none) #[true, true, true, true, true, true, true, true] rfl rfl (one_of HT_.out (by kernel_rfl)) (by decide) (fun K hK => ?_)
   have hs44 := bc2_ BN.out
   have hfs44 := blk_frozen BN.out 2
   refine skip_ (w1 := ?_) (by rfl) rfl ?_ ?_
   rotate_left
   · go_simp
     rfl
   refine hK.out _ _ ?_
   clear hK K
   refine done_ (done_of HT_.out (by kernel_rfl)) ?_
   try go_wp2
   go_roundg k2
   case measure => have := HK2.out; omega
   case rel => exact ⟨(wrap64 (x + 1)), y, q2, _, hW_, H', ⟨by have := HK2.out; omega⟩, ⟨by skip; (with_reducible repeat (first | apply Kd.R_alloc | apply Kd.R_drewN | apply Kd.R_drew)); exact (Kd.R_mono (rF_ (Kd.R_types (hR_ HO.out) (hK_ BN.out) (by decide))) (fun _ h_ => h_.1))⟩, ⟨by (with_reducible repeat (first | refine blk_drewN ?_ _ | refine blk_drew ?_ | refine blk_alloc ?_ _)); exact (bP_ (hK_ BN.out))⟩, ⟨by (with_reducible repeat (first | refine blk_drewN ?_ _ | refine blk_drew ?_ | refine blk_alloc ?_ _)); exact (bF_ (hK_ BR.out) hRN)⟩, ⟨⟨by (with_reducible repeat (first | refine blk_drewN ?_ _ | refine blk_drew ?_ | refine blk_alloc ?_ _)); exact (bF_ (hK_ HI.out.1) hTN), HI.out.2⟩⟩, ⟨hC_⟩⟩

end Go.Proofs.YthoegphcmkejoaaDoor.G
end
section
namespace Go.Proofs.YthoegphcmkejoaaDoor.G
open Go.RowKit Go.Proofs.YthoegphcmkejoaaDoorW.PrintWords Go.Proofs.YthoegphcmkejoaaDoorW.PrintLast Go.Proofs.YthoegphcmkejoaaDoorW.PrintMore
set_option linter.unusedVariables false
set_option linter.unusedSimpArgs false
theorem recLow_l0 (x : Int) (m : Nat) (hm : m ≤ 7) (n : Nat) : ∀ (l : List Int) (j : Nat), j + n = m → l.length = m → (∀ i, i < j → l[i]? = some (x / 256 ^ i % 256)) → Ev (fun k => record_low.l0 k x l (m : Int) (j : Int)) (strOfNums (lowL m x)) := by
  induction n with
  | zero =>
    intro l j hj hl h
    refine Ev.step (f := fun _ => some (strOfNums l)) (fun k => ?_) ?_
    · simp only [record_low.l0]
      rw [if_neg (by omega)]
    · have e : l = lowL m x := by
        apply List.ext_getElem?
        intro i
        by_cases hi : i < m
        · rw [h i (by omega), lowL_get m x i hi]
        · rw [List.getElem?_eq_none (by omega), List.getElem?_eq_none (by rw [lowL_length]; omega)]
      rw [e]
      exact Ev.now _
  | succ n ih =>
    intro l j hj hl h
    have hw : wrap64 ((j : Int) + 1) = ((j + 1 : Nat) : Int) := by rw [w64 (by omega) (by omega)]; omega
    have hw8 : wrap64 (8 * (j : Int)) = 8 * (j : Int) := w64 (by omega) (by omega)
    refine Ev.step (f := fun k => record_low.l0 k x (l.set (j : Int).toNat ((shr .i64 x (8 * (j : Int))) % 256)) (m : Int) ((j + 1 : Nat) : Int)) (fun k => ?_) ?_
    · simp only [record_low.l0]
      rw [if_pos (by omega), hw8, if_pos (by omega), if_pos (by omega), if_pos (by omega), hw]
    · refine ih _ (j + 1) (by omega) (by rw [List.length_set]; exact hl) ?_
      intro i hi
      rw [Int.toNat_natCast]
      by_cases e : i = j
      · subst e
        rw [List.getElem?_set_self (by omega)]
        congr 2
        unfold shr
        have e1 : (8 * (i : Int)).toNat = 8 * i := by omega
        rw [e1, Nat.min_eq_left (by simp only [IntKind.bits]; omega), Int.pow_mul, show (2 : Int) ^ 8 = 256 from rfl]
      · rw [List.getElem?_set_ne (by omega)]
        exact h i (by omega)
theorem recLow_ev (x : Int) (m : Nat) (hm : m ≤ 7) : Ev (fun k => record_low.f k x (m : Int)) (strOfNums (lowL m x)) := by
  have h := recLow_l0 x m hm m (List.replicate m 0) 0 (by omega) (by simp) (by intro i hi; omega)
  refine Ev.congr (fun k => ?_) h
  unfold record_low.f
  rw [if_pos (by omega), if_pos (by omega), Int.toNat_natCast]
  simp only [Option.bind_some, List.length_replicate]
  rfl
theorem textL_str (s : ByteArray) : strOfNums (lowL 2 (s.size : Int)) ++ s = strOfNums (textL s) := by
  unfold textL
  rw [strOfNums_append, strOfNums_bytesOf]
theorem recText_ev (s : ByteArray) (hs : s.size ≤ 1024) : Ev (fun k => record_text.f k s) (strOfNums (textL s)) := by
  unfold record_text.f
  refine Ev.bind (recLow_ev (s.size : Int) 2 (by omega)) ?_
  have hl : (strOfNums (lowL 2 (s.size : Int))).size = 2 := by rw [size_strOfNums, lowL_length]
  simp only [hl, if_pos (show 2 + s.size ≤ 9223372036854775807 by omega), textL_str]
  exact Ev.now _
theorem textL_length (s : ByteArray) : (textL s).length = 2 + s.size := by
  unfold textL
  rw [List.length_append, lowL_length, bytesOf_length]
def headOf (x : Nd) : List Int := lowL 1 x.f0 ++ (lowL 2 (x.f1 + 1) ++ lowL 1 (x.f2.length : Int))
theorem flat_length : ∀ l : List ByteArray, (∀ s ∈ l, s.size ≤ 1024) → (l.flatMap textL).length ≤ 1026 * l.length
  | [], _ => Nat.le_refl _
  | s :: l, h => by
    have := flat_length l (fun x hx => h x (List.mem_cons_of_mem _ hx))
    have hs := h s (List.mem_cons_self ..)
    rw [List.flatMap_cons, List.length_append, textL_length, List.length_cons]
    omega
theorem put_l0 (x : Nd) (h : recS x = true) : ∀ (n i : Nat), i + n = x.f2.length → Ev (fun k => record_Put.l0 k (strOfNums (headOf x ++ (x.f2.take i).flatMap textL)) (i : Int) x.f2 x.f3) (recOf x, 0) := by
  obtain ⟨e, _, _⟩ := recS_spec h
  obtain ⟨_, _, q2, q3, q4⟩ := eqS_spec e
  have hz : ∀ i, (strOfNums (headOf x ++ (x.f2.take i).flatMap textL)).size ≤ 4000 := fun i => by
    have := flat_length (x.f2.take i) (fun s hs => mayS_size (q3 s (List.mem_of_mem_take hs)))
    have h2 : (x.f2.take i).length ≤ 3 := by rw [List.length_take]; omega
    rw [size_strOfNums, List.length_append]
    have h3 : (headOf x).length = 4 := by unfold headOf; rw [List.length_append, List.length_append, lowL_length, lowL_length, lowL_length]
    omega
  intro n
  induction n with
  | zero =>
    intro i hi
    have hs3 := mayS_size q4
    have hr := recText_ev x.f3 hs3
    have e1 : (strOfNums (textL x.f3)).size = 2 + x.f3.size := by rw [size_strOfNums, textL_length]
    refine Ev.step (f := fun k => (record_text.f k x.f3).bind fun t => (if (strOfNums (headOf x ++ (x.f2.take i).flatMap textL)).size + t.size ≤ 9223372036854775807 then some (strOfNums (headOf x ++ (x.f2.take i).flatMap textL) ++ t, 0) else none)) (fun k => by rw [record_Put.l0, if_neg (by omega)]) ?_
    refine Ev.bind hr ?_
    simp only [if_pos (show (strOfNums (headOf x ++ (x.f2.take i).flatMap textL)).size + (strOfNums (textL x.f3)).size ≤ 9223372036854775807 by have := hz i; omega)]
    have e2 : strOfNums (headOf x ++ (x.f2.take i).flatMap textL) ++ strOfNums (textL x.f3) = recOf x := by
      rw [← strOfNums_append, List.take_of_length_le (by omega)]
      unfold recOf recL headOf
      rw [List.append_assoc]
    rw [e2]
    exact Ev.now _
  | succ n ih =>
    intro i hi
    have hlt : i < x.f2.length := by omega
    have hw : wrap64 ((i : Int) + 1) = ((i + 1 : Nat) : Int) := by rw [w64 (by omega) (by omega)]; omega
    have hrd : rdOf ByteArray.empty x.f2 (i : Int) = x.f2[i] := by
      show x.f2.getD _ _ = _
      rw [Int.toNat_natCast, List.getD_eq_getElem?_getD, List.getElem?_eq_getElem hlt]; rfl
    have hsz := mayS_size (q3 _ (List.getElem_mem hlt))
    have e1 : (strOfNums (textL x.f2[i])).size = 2 + x.f2[i].size := by rw [size_strOfNums, textL_length]
    refine Ev.step (f := fun k => (record_text.f k x.f2[i]).bind fun t => (if (strOfNums (headOf x ++ (x.f2.take i).flatMap textL)).size + t.size ≤ 9223372036854775807 then record_Put.l0 k (strOfNums (headOf x ++ (x.f2.take i).flatMap textL) ++ t) ((i + 1 : Nat) : Int) x.f2 x.f3 else none)) (fun k => by rw [record_Put.l0, if_pos (by omega), if_pos (by omega), hrd, hw]) ?_
    refine Ev.bind (recText_ev _ hsz) ?_
    simp only [if_pos (show (strOfNums (headOf x ++ (x.f2.take i).flatMap textL)).size + (strOfNums (textL x.f2[i])).size ≤ 9223372036854775807 by have := hz i; omega)]
    have e2 : strOfNums (headOf x ++ (x.f2.take i).flatMap textL) ++ strOfNums (textL x.f2[i]) = strOfNums (headOf x ++ (x.f2.take (i + 1)).flatMap textL) := by
      rw [← strOfNums_append, List.take_succ_eq_append_getElem hlt, List.flatMap_append, List.append_assoc]
      simp only [List.flatMap_cons, List.flatMap_nil, List.append_nil]
    rw [e2]
    exact ih (i + 1) (by omega)
theorem putRec_ev (x : Nd) (hp0 : -9223372036854775808 ≤ x.f1) (hp1 : x.f1 ≤ 9223372036854775807) : Ev (fun k => record_Put.f k x.f0 x.f1 x.f2 x.f3) (putR x) := by
  unfold record_Put.f putR recS
  refine Ev.bind (equation_ev x) ?_
  cases he : eqS x with
  | false => simp only [if_neg Bool.false_ne_true, Bool.false_and]; exact Ev.now _
  | true =>
    simp only [if_pos, Bool.true_and]
    by_cases c1 : x.f1 < -1
    · rw [decide_eq_false (show ¬ -1 ≤ x.f1 by omega), Bool.false_and]
      simp only [if_pos c1, if_neg Bool.false_ne_true]; exact Ev.now _
    · rw [decide_eq_true (show -1 ≤ x.f1 by omega), Bool.true_and]
      by_cases c2 : x.f1 ≥ 512
      · rw [decide_eq_false (show ¬ x.f1 < 512 by omega)]
        simp only [if_neg c1, if_pos c2, if_neg Bool.false_ne_true]; exact Ev.now _
      · have c3 : x.f1 < 512 := by omega
        rw [decide_eq_true c3]
        simp only [if_neg c1, if_neg c2, if_pos]
        have hrs : recS x = true := by
          unfold recS
          rw [he, decide_eq_true (show -1 ≤ x.f1 by omega), decide_eq_true c3]; rfl
        obtain ⟨_, _, q2, _, _⟩ := eqS_spec he
        have hw : wrap64 (x.f1 + 1) = x.f1 + 1 := w64 (by omega) (by omega)
        unfold record_Put.m
        rw [hw]
        have s1 : (strOfNums (lowL 1 x.f0)).size = 1 := by rw [size_strOfNums, lowL_length]
        have s2 : (strOfNums (lowL 2 (x.f1 + 1))).size = 2 := by rw [size_strOfNums, lowL_length]
        have s3 : (strOfNums (lowL 1 (x.f2.length : Int))).size = 1 := by rw [size_strOfNums, lowL_length]
        refine Ev.bind (recLow_ev x.f0 1 (by omega)) (Ev.bind (recLow_ev (x.f1 + 1) 2 (by omega)) ?_)
        simp only [s1, s2, if_pos (show 1 + 2 ≤ 9223372036854775807 by omega)]
        refine Ev.bind (recLow_ev (x.f2.length : Int) 1 (by omega)) ?_
        simp only [ByteArray.size_append, s1, s2, s3, if_pos (show 1 + 2 + 1 ≤ 9223372036854775807 by omega)]
        have h0 := put_l0 x hrs x.f2.length 0 (by omega)
        have e0 : strOfNums (headOf x ++ (x.f2.take 0).flatMap textL) = (strOfNums (lowL 1 x.f0) ++ strOfNums (lowL 2 (x.f1 + 1))) ++ strOfNums (lowL 1 (x.f2.length : Int)) := by
          rw [List.take_zero, List.flatMap_nil, List.append_nil]
          unfold headOf
          rw [strOfNums_append, strOfNums_append, ByteArray.append_assoc]
        rw [e0] at h0
        exact h0
theorem take_min (L : List Int) (a : Nat) : L.take (min a L.length) = L.take a := by
  by_cases h : a ≤ L.length
  · rw [Nat.min_eq_left h]
  · rw [Nat.min_eq_right (by omega), List.take_of_length_le (Nat.le_refl _), List.take_of_length_le (by omega)]
theorem drop_min (L : List Int) (a : Nat) : L.drop (min a L.length) = L.drop a := by
  by_cases h : a ≤ L.length
  · rw [Nat.min_eq_left h]
  · rw [Nat.min_eq_right (by omega), List.drop_eq_nil_of_le (Nat.le_refl _), List.drop_eq_nil_of_le (by omega)]
theorem ext_take (s : ByteArray) (a : Nat) : bytesOf (s.extract 0 (min a s.size)) = (bytesOf s).take a := by
  rw [bytesOf_extract, List.drop_zero, ← bytesOf_length s, take_min]
theorem ext_drop (s : ByteArray) (a : Nat) : bytesOf (s.extract (min a s.size) s.size) = (bytesOf s).drop a := by
  rw [bytesOf_extract, ← bytesOf_length s, List.take_of_length_le (Nat.le_refl _), drop_min]
theorem takeB (s : ByteArray) (a : Nat) : ∃ t r, record_taker_take.f s (a : Int) = some (t, r) ∧ bytesOf t = (bytesOf s).take a ∧ bytesOf r = (bytesOf s).drop a := by
  refine ⟨s.extract 0 (min a s.size), s.extract (min a s.size) s.size, ?_, ext_take s a, ext_drop s a⟩
  have hm : mn (a : Int) (s.size : Int) = ((min a s.size : Nat) : Int) := by
    unfold mn
    split <;> omega
  have hz : (s.extract 0 (min a s.size)).size = min a s.size := by
    have := congrArg List.length (ext_take s a)
    rw [bytesOf_length, List.length_take, bytesOf_length] at this
    exact this
  have h1 : ((min a s.size : Nat) : Int) ≤ (s.size : Int) := by omega
  unfold record_taker_take.f
  rw [hm, Int.toNat_natCast, hz, if_pos (by omega), if_pos h1, if_pos (by omega), if_pos h1, Int.toNat_natCast]
theorem numB (s : ByteArray) (a : Nat) (ha : a ≤ 2) : ∃ r, (∀ k, record_taker_number.f k s (a : Int) = some (numLE ((bytesOf s).take a), r)) ∧ bytesOf r = (bytesOf s).drop a := by
  obtain ⟨t, r, h1, h2, h3⟩ := takeB s a
  refine ⟨r, fun k => ?_, h3⟩
  have hz : t.size ≤ 2 := by
    have := congrArg List.length h2
    rw [bytesOf_length, List.length_take] at this
    omega
  unfold record_taker_number.f
  rw [h1]
  simp only [Option.bind_some, if_pos hz, h2]
theorem num_rng (L : List Int) (h : ∀ y ∈ L, 0 ≤ y ∧ y < 256) (a : Nat) (ha : a ≤ 2) : 0 ≤ numLE (L.take a) ∧ numLE (L.take a) < 65536 := by
  obtain ⟨h0, h1⟩ := numLE_range (L.take a) (fun y hy => h y (List.mem_of_mem_take hy))
  refine ⟨h0, Int.lt_of_lt_of_le h1 ?_⟩
  have hl : (L.take a).length ≤ 2 := by rw [List.length_take]; omega
  have : (L.take a).length = 0 ∨ (L.take a).length = 1 ∨ (L.take a).length = 2 := by omega
  rcases this with e | e | e <;> rw [e] <;> decide
theorem textB (s : ByteArray) : ∃ r, (∀ k, record_taker_text.f k s = some ((textP (bytesOf s)).1, r)) ∧ bytesOf r = (textP (bytesOf s)).2 := by
  obtain ⟨q, h1, h2⟩ := numB s 2 (by omega)
  obtain ⟨n0, n1⟩ := num_rng (bytesOf s) (bytesOf_range s) 2 (by omega)
  obtain ⟨t, r, g1, g2, g3⟩ := takeB q (numLE ((bytesOf s).take 2)).toNat
  rw [h2] at g2 g3
  have e : ((numLE ((bytesOf s).take 2)).toNat : Int) = numLE ((bytesOf s).take 2) := by omega
  rw [e] at g1
  refine ⟨r, fun k => ?_, g3⟩
  have h1' := h1 k
  unfold record_taker_text.f
  rw [show ((2 : Nat) : Int) = 2 from rfl] at h1'
  rw [h1']
  simp only [Option.bind_some, g1]
  have et : t = (textP (bytesOf s)).1 := by
    unfold textP
    rw [← g2, strOfNums_bytesOf]
  rw [et]
theorem argsB : ∀ (n x m : Nat) (l : List ByteArray) (s : ByteArray), x + n = m → m ≤ 3 → l.length = x → ∃ r, Ev (fun k => record_Get.l0 k (m : Int) (x : Int) l s) (l ++ (argsP n (bytesOf s)).1, r) ∧ bytesOf r = (argsP n (bytesOf s)).2
  | 0, x, m, l, s, hx, hm, hl => ⟨s, Ev.step (f := fun _ => some (l, s)) (fun k => by rw [record_Get.l0, if_neg (by omega)]) (by rw [argsP, List.append_nil]; exact Ev.now _), rfl⟩
  | n + 1, x, m, l, s, hx, hm, hl => by
    obtain ⟨q, h1, h2⟩ := textB s
    obtain ⟨r, g1, g2⟩ := argsB n (x + 1) m (l ++ [(textP (bytesOf s)).1]) q (by omega) hm (by rw [List.length_append, hl]; rfl)
    rw [h2] at g1 g2
    refine ⟨r, ?_, by rw [argsP]; exact g2⟩
    have hw : wrap64 ((x : Int) + 1) = ((x + 1 : Nat) : Int) := by rw [w64 (by omega) (by omega)]; omega
    refine Ev.step (f := fun k => record_Get.l0 k (m : Int) ((x + 1 : Nat) : Int) (l ++ [(textP (bytesOf s)).1]) q) (fun k => by rw [record_Get.l0, if_pos (by omega), h1 k]; simp only [Option.bind_some]; rw [if_pos (by omega), hw]) ?_
    rw [argsP]
    rw [List.append_assoc] at g1
    exact g1
def flatR (p : Nd × Int) : Int × Int × List ByteArray × ByteArray × Int := (p.1.f0, p.1.f1, p.1.f2, p.1.f3, p.2)
theorem getRec_ev (s : ByteArray) : Ev (fun k => record_Get.f k s) (flatR (getR s)) := by
  obtain ⟨s1, a1, b1⟩ := numB s 1 (by omega)
  obtain ⟨s2, a2, b2⟩ := numB s1 2 (by omega)
  obtain ⟨s3, a3, b3⟩ := numB s2 1 (by omega)
  rw [b1] at a2 b2
  rw [b2, List.drop_drop] at a3 b3
  rw [List.drop_drop] at b3
  have hr := bytesOf_range s
  have hr1 : ∀ n, ∀ y ∈ (bytesOf s).drop n, 0 ≤ y ∧ y < 256 := fun n y hy => hr y (List.mem_of_mem_drop hy)
  have n1 := num_rng _ (hr1 1) 2 (by omega)
  have n3 := num_rng _ (hr1 3) 1 (by omega)
  have hmany : mn (numLE (((bytesOf s).drop 3).take 1)) 3 = ((manyP (bytesOf s)).toNat : Int) ∧ (manyP (bytesOf s)).toNat ≤ 3 := by
    unfold mn manyP
    generalize numLE (((bytesOf s).drop 3).take 1) = v at n3
    split <;> split <;> omega
  obtain ⟨q, g1, g2⟩ := argsB (manyP (bytesOf s)).toNat 0 (manyP (bytesOf s)).toNat [] s3 (Nat.zero_add _) hmany.2 rfl
  rw [b3, List.nil_append] at g1
  rw [b3] at g2
  obtain ⟨z, h1, h2⟩ := textB q
  rw [g2] at h1
  have hw : wrap64 (numLE (((bytesOf s).drop 1).take 2) - 1) = numLE (((bytesOf s).drop 1).take 2) - 1 := w64 (by omega) (by omega)
  have hp := putRec_ev (getP (bytesOf s)) (by show _ ≤ numLE (((bytesOf s).drop 1).take 2) - 1; omega) (by show numLE (((bytesOf s).drop 1).take 2) - 1 ≤ _; omega)
  unfold record_Get.f
  refine Ev.bind (Ev.congr (fun k => a1 k) (Ev.now _)) (Ev.bind (Ev.congr (fun k => a2 k) (Ev.now _)) (Ev.bind (Ev.congr (fun k => a3 k) (Ev.now _)) ?_))
  simp only [hmany.1]
  refine Ev.bind g1 (Ev.bind (Ev.congr (fun k => h1 k) (Ev.now _)) ?_)
  simp only [hw]
  refine Ev.bind hp ?_
  unfold getR putR flatR
  by_cases c : recS (getP (bytesOf s)) = true
  · simp only [if_pos c, if_pos, toList_inj]
    by_cases d : recOf (getP (bytesOf s)) = s
    · simp only [if_pos d, c, d, and_self, if_true]; exact Ev.now _
    · simp only [if_neg d, d, and_false, if_false]; exact Ev.now _
  · have g : ¬ (1500 : Int) = 0 := by decide
    simp only [if_neg c, if_neg g, c, false_and, if_false]; exact Ev.now _
end Go.Proofs.YthoegphcmkejoaaDoor.G
end
section
namespace Go.Proofs.YthoegphcmkejoaaDoor.G
open Go.RowKit Go.Proofs.YthoegphcmkejoaaDoorW.PrintWords Go.Proofs.YthoegphcmkejoaaDoorW.PrintLast Go.Proofs.YthoegphcmkejoaaDoorW.PrintMore
set_option maxHeartbeats 8000000
set_option maxRecDepth 100000
attribute [local go_sem] max2_int min2_int max_two min_two max_three min_three max_four min_four   -- for this text's walks alone
set_option linter.unusedVariables false
set_option linter.unusedSimpArgs false

def sleuthlaw0_Num.f (a0 : Int) : Option (Int) := some a0
theorem sleuthlaw0_Num.calls (a0 : Int) (r : Int) (w : World) (h : sleuthlaw0_Num.f a0 = some r) :
 Calls Tryd.prog 12 #[.int .i64 a0] w fun e w' => e = .returned (.int .i64 r) ∧ Drawn0 w w' := by
 have H : (some a0) = some r := h
 clear h
 obtain rfl := Option.some.inj H
 go_enter Tryd.func12, Tryd.ntmps12
 go_wp2
 go_ret
 exact ⟨by first | rfl | (simp; done) | (simp [*]; done), by repeat (first | exact Drawn0.refl _ | apply Drawn0.step)⟩

def sleuthlaw0_SameTexts.l0 : Nat → List ByteArray → List ByteArray → Int → Option (Bool)
 | 0, _, _, _ => none
 | k + 1, x0, x1, x5 => if x5 < (x0.length : Int) then (if 0 ≤ x5 then (if x5 < (x1.length : Int) then (if (rdOf ByteArray.empty x0 x5).toList = (rdOf ByteArray.empty x1 x5).toList then (sleuthlaw0_SameTexts.l0 k x0 x1 (wrap64 (x5 + 1))) else (some false)) else (none)) else (none)) else (some true)
def sleuthlaw0_SameTexts.f (k : Nat) (l0 : List ByteArray) (l1 : List ByteArray) : Option (Bool) := if (l0.length : Int) = (l1.length : Int) then (sleuthlaw0_SameTexts.l0 k l0 l1 0) else (some false)
theorem sleuthlaw0_SameTexts.calls (k : Nat) (A0 : Option Addr) (c0 : Nat) (l0 : List ByteArray) (A1 : Option Addr) (c1 : Nat) (l1 : List ByteArray) (r : Bool) (w : World) (hr0 : Kd.C Kd.string w A0 l0.length l0) (hc0 : l0.length ≤ c0) (hr1 : Kd.C Kd.string w A1 l1.length l1) (hc1 : l1.length ≤ c1) (h : sleuthlaw0_SameTexts.f k l0 l1 = some r) :
 Calls Tryd.prog 28 #[.slice A0 l0.length c0, .slice A1 l1.length c1] w fun e w' => e = .returned (.bool r) ∧ Drawn0 w w' := by
 have HR0 := a_ hr0
 have HC0 := a_ hc0
 clear hr0 hc0
 have HR1 := a_ hr1
 have HC1 := a_ hc1
 clear hr1 hc1
 have H := h; unfold sleuthlaw0_SameTexts.f at H
 clear h
 by_cases c3 : (l0.length : Int) = (l1.length : Int)
 case neg =>
  rw [if_neg c3] at H
  have c3b0 : ((l0.length : Int) == (l1.length : Int)) = false := beq_eq_false_iff_ne.mpr c3
  have c3b1 : ((l0.length : Int) != (l1.length : Int)) = true := bne_iff_ne.mpr c3
  have c3b2 : (l0.length == l1.length) = false := by first | simpa using c3 | (simp at c3 ⊢; omega)
  obtain rfl := Option.some.inj H
  go_enter Tryd.func28, Tryd.ntmps28
  go_wp2
  repeat (go_quiet (fail); try go_wp2)
  go_ret
  exact ⟨by first | rfl | (simp; done) | (simp [*]; done), by repeat (first | exact Drawn0.refl _ | apply Drawn0.step)⟩

 rw [if_pos c3] at H
 have c3b0 : ((l0.length : Int) == (l1.length : Int)) = true := beq_iff_eq.mpr c3
 have c3b1 : ((l0.length : Int) != (l1.length : Int)) = false := bne_eq_false_iff_eq.mpr c3
 have c3b2 : (l0.length == l1.length) = true := by first | simpa using c3 | (simp at c3 ⊢; omega)
 clear c3
 have H' := a_ H
 clear H
 go_enter Tryd.func28, Tryd.ntmps28
 go_wp2
 repeat (go_quiet (fail); try go_wp2)
 go_loopg [5] k (fun kq v5 w' => ∃ (x0 : Int), v5 = .int .i64 x0 ∧ Aside0 (sleuthlaw0_SameTexts.l0 kq l0 l1 x0 = some r) ∧ Aside0 (kq ≤ k) ∧ Drawn0 w w')
 case atStart => exact ⟨(0), hW_, H', ⟨Nat.le_refl _⟩, by repeat (first | exact Drawn0.refl _ | apply Drawn0.step)⟩
 case round =>
  clear H'
  try clear c1
  try clear c2
  try clear p2
  try clear c3
  try clear c3b0
  try clear c3b1
  try clear c3b2
  obtain ⟨x0, rfl, HA, HK1, ⟨m1, rfl⟩⟩ := hrel
  cases gk with
  | zero => exact absurd HA.out (by simp [sleuthlaw0_SameTexts.l0])
  | succ k1 =>
   have H := HA.out
   clear HA
   simp only [sleuthlaw0_SameTexts.l0] at H
   by_cases c4 : x0 < (l0.length : Int)
   case neg =>
    rw [if_neg c4] at H
    have c4b0 : decide (x0 < (l0.length : Int)) = false := decide_eq_false c4
    clear c4
    obtain rfl := Option.some.inj H
    go_wp2
    repeat (go_quiet (fail); try go_wp2)
    go_ret
    exact ⟨by first | rfl | (simp; done) | (simp [*]; done), by repeat (first | exact Drawn0.refl _ | apply Drawn0.step)⟩
   rw [if_pos c4] at H
   have c4b0 : decide (x0 < (l0.length : Int)) = true := decide_eq_true c4
   clear c4
   replace H := ifI_ H; obtain ⟨c5, H⟩ := H
   have c5b0 : decide (0 ≤ x0) = true := decide_eq_true c5
   clear c5
   replace H := ifI_ H; obtain ⟨c6, H⟩ := H
   have c6b0 : decide (x0 < (l1.length : Int)) = true := decide_eq_true c6
   clear c6
   by_cases c7 : (rdOf ByteArray.empty l0 x0).toList = (rdOf ByteArray.empty l1 x0).toList
   case neg =>
    rw [if_neg c7] at H
    have c7b0 : ((rdOf ByteArray.empty l0 x0).toList == (rdOf ByteArray.empty l1 x0).toList) = false := beq_eq_false_iff_ne.mpr c7
    have c7b1 : ((rdOf ByteArray.empty l0 x0).toList != (rdOf ByteArray.empty l1 x0).toList) = true := bne_iff_ne.mpr c7
    obtain rfl := Option.some.inj H
    have p142 : 0 ≤ (x0 : Int) := of_decide_eq_true hA_
    have q142 : x0 < (l0.length : Int) := of_decide_eq_true hA_
    obtain ⟨d0, e142, h0⟩ := Kd.at_string HR0.out x0 p142 q142
    cases e142
    replace p142 := eq_true p142
    replace q142 := eq_true q142
    have p143 : 0 ≤ (x0 : Int) := of_decide_eq_true hA_
    have q143 : x0 < (l1.length : Int) := of_decide_eq_true hA_
    obtain ⟨d1, e143, h1⟩ := Kd.at_string HR1.out x0 p143 q143
    cases e143
    replace p143 := eq_true p143
    replace q143 := eq_true q143
    go_wp2
    repeat (go_quiet (fail); try go_wp2)
    go_ret
    exact ⟨by first | rfl | (simp; done) | (simp [*]; done), by repeat (first | exact Drawn0.refl _ | apply Drawn0.step)⟩
   rw [if_pos c7] at H
   have c7b0 : ((rdOf ByteArray.empty l0 x0).toList == (rdOf ByteArray.empty l1 x0).toList) = true := beq_iff_eq.mpr c7
   have c7b1 : ((rdOf ByteArray.empty l0 x0).toList != (rdOf ByteArray.empty l1 x0).toList) = false := bne_eq_false_iff_eq.mpr c7
   clear c7
   have H' := a_ H
   clear H
   have p142 : 0 ≤ (x0 : Int) := of_decide_eq_true hA_
   have q142 : x0 < (l0.length : Int) := of_decide_eq_true hA_
   obtain ⟨d0, e142, h0⟩ := Kd.at_string HR0.out x0 p142 q142
   cases e142
   replace p142 := eq_true p142
   replace q142 := eq_true q142
   have p143 : 0 ≤ (x0 : Int) := of_decide_eq_true hA_
   have q143 : x0 < (l1.length : Int) := of_decide_eq_true hA_
   obtain ⟨d1, e143, h1⟩ := Kd.at_string HR1.out x0 p143 q143
   cases e143
   replace p143 := eq_true p143
   replace q143 := eq_true q143
   go_wp2
   repeat (go_quiet (fail); try go_wp2)
   go_roundg k1
   case measure => have := HK1.out; omega
   case rel => exact ⟨(wrap64 (x0 + 1)), hW_, H', ⟨by have := HK1.out; omega⟩, by repeat (first | exact Drawn0.refl _ | apply Drawn0.step)⟩
def sleuthlaw0_SameNode.f (k : Nat) (a0_0 : Int) (a0_1 : Int) (l0_2 : List ByteArray) (a0_3 : ByteArray) (a1_0 : Int) (a1_1 : Int) (l1_2 : List ByteArray) (a1_3 : ByteArray) : Option (Bool) := if a0_0 = a1_0 then (if a0_1 = a1_1 then ((sleuthlaw0_SameTexts.f k l0_2 l1_2).bind fun t146 => (if t146 = true then (some (a0_3.toList == a1_3.toList)) else (some false))) else (some false)) else (some false)
theorem sleuthlaw0_SameNode.calls (k : Nat) (a0_0 : Int) (a0_1 : Int) (A0_2 : Option Addr) (c0_2 : Nat) (l0_2 : List ByteArray) (a0_3 : ByteArray) (a1_0 : Int) (a1_1 : Int) (A1_2 : Option Addr) (c1_2 : Nat) (l1_2 : List ByteArray) (a1_3 : ByteArray) (r : Bool) (w : World) (hr0_2 : Kd.C Kd.string w A0_2 l0_2.length l0_2) (hc0_2 : l0_2.length ≤ c0_2) (hr1_2 : Kd.C Kd.string w A1_2 l1_2.length l1_2) (hc1_2 : l1_2.length ≤ c1_2) (h : sleuthlaw0_SameNode.f k a0_0 a0_1 l0_2 a0_3 a1_0 a1_1 l1_2 a1_3 = some r) :
 Calls Tryd.prog 13 #[.agg #[.int .i64 a0_0, .int .i64 a0_1, .slice A0_2 l0_2.length c0_2, .string a0_3], .agg #[.int .i64 a1_0, .int .i64 a1_1, .slice A1_2 l1_2.length c1_2, .string a1_3]] w fun e w' => e = .returned (.bool r) ∧ Below w.heap.size w w' := by
 have hu24 := Tryd.underlying24
 have HR0_2 := a_ hr0_2
 have HC0_2 := a_ hc0_2
 clear hr0_2 hc0_2
 have HR1_2 := a_ hr1_2
 have HC1_2 := a_ hc1_2
 clear hr1_2 hc1_2
 have HB := a_ (Below.refl w.heap.size w)
 have H := h; unfold sleuthlaw0_SameNode.f at H
 clear h
 by_cases c3 : a0_0 = a1_0
 case neg =>
  rw [if_neg c3] at H
  have c3b0 : (a0_0 == a1_0) = false := beq_eq_false_iff_ne.mpr c3
  have c3b1 : (a0_0 != a1_0) = true := bne_iff_ne.mpr c3
  obtain rfl := Option.some.inj H
  go_enter Tryd.func13, Tryd.ntmps13
  go_wp2_with (first | ((with_reducible refine gate_dst (N := 2) rfl ?_); refine boxE_ 2 #[.int .i64 a0_0, .int .i64 a0_1, .slice A0_2 l0_2.length c0_2, .string a0_3] 24 ?_; intro g0 hg w0 hbox hb; have B0 := a_ (hbox); have E0 := a_ ((gE_ hg : w.heap.size ≤ g0)); replace HB := a_ (below_step hB_ hb); clear hb hbox hg) | ((with_reducible refine gate_dst (N := 3) rfl ?_); refine boxE_ 3 #[.int .i64 a1_0, .int .i64 a1_1, .slice A1_2 l1_2.length c1_2, .string a1_3] 24 ?_; intro g1 hg w1 hbox hb; have B1 := a_ (hbox); have E1 := a_ ((gE_ hg : w.heap.size ≤ g1)); replace HB := a_ (below_step hC_ hb); have N0 := a_ ((bL_ B0.out hg : g0 ≠ g1)); have N1 := a_ ((bG_ B0.out hg : g1 ≠ g0)); replace B0 := a_ (bB_ B0.out hb); clear hb hbox hg; have m0 := N0.out; have n0 := N1.out; obtain ⟨z0, z1, z2, z3, f0, f1, f2, f3⟩ := bx4_ B0.out; obtain ⟨z4, z5, z6, z7, f4, f5, f6, f7⟩ := bx4_ B1.out))
  go_ret
  exact ⟨hV_, hC_⟩

 rw [if_pos c3] at H
 have c3b0 : (a0_0 == a1_0) = true := beq_iff_eq.mpr c3
 have c3b1 : (a0_0 != a1_0) = false := bne_eq_false_iff_eq.mpr c3
 clear c3
 by_cases c4 : a0_1 = a1_1
 case neg =>
  rw [if_neg c4] at H
  have c4b0 : (a0_1 == a1_1) = false := beq_eq_false_iff_ne.mpr c4
  have c4b1 : (a0_1 != a1_1) = true := bne_iff_ne.mpr c4
  obtain rfl := Option.some.inj H
  go_enter Tryd.func13, Tryd.ntmps13
  go_wp2_with (first | ((with_reducible refine gate_dst (N := 2) rfl ?_); refine boxE_ 2 #[.int .i64 a0_0, .int .i64 a0_1, .slice A0_2 l0_2.length c0_2, .string a0_3] 24 ?_; intro g0 hg w2 hbox hb; have B0 := a_ (hbox); have E0 := a_ ((gE_ hg : w.heap.size ≤ g0)); replace HB := a_ (below_step hB_ hb); clear hb hbox hg) | ((with_reducible refine gate_dst (N := 3) rfl ?_); refine boxE_ 3 #[.int .i64 a1_0, .int .i64 a1_1, .slice A1_2 l1_2.length c1_2, .string a1_3] 24 ?_; intro g1 hg w3 hbox hb; have B1 := a_ (hbox); have E1 := a_ ((gE_ hg : w.heap.size ≤ g1)); replace HB := a_ (below_step hC_ hb); have N0 := a_ ((bL_ B0.out hg : g0 ≠ g1)); have N1 := a_ ((bG_ B0.out hg : g1 ≠ g0)); replace B0 := a_ (bB_ B0.out hb); clear hb hbox hg; have m1 := N0.out; have n1 := N1.out; obtain ⟨z8, z9, z10, z11, f8, f9, f10, f11⟩ := bx4_ B0.out; obtain ⟨z12, z13, z14, z15, f12, f13, f14, f15⟩ := bx4_ B1.out))
  go_ret
  exact ⟨hV_, hC_⟩
 rw [if_pos c4] at H
 have c4b0 : (a0_1 == a1_1) = true := beq_iff_eq.mpr c4
 have c4b1 : (a0_1 != a1_1) = false := bne_eq_false_iff_eq.mpr c4
 clear c4
 replace H := Option.bind_eq_some_iff.mp H
 obtain ⟨t0, A50, H⟩ := H
 try dsimp only at H
 have A5 := a_ A50
 clear A50
 by_cases c6 : t0 = true
 case pos =>
  subst c6
  rw [if_pos rfl] at H
  obtain rfl := Option.some.inj H
  go_enter Tryd.func13, Tryd.ntmps13
  go_wp2_with (first | ((with_reducible refine gate_dst (N := 2) rfl ?_); refine boxE_ 2 #[.int .i64 a0_0, .int .i64 a0_1, .slice A0_2 l0_2.length c0_2, .string a0_3] 24 ?_; intro g0 hg w7 hbox hb; have B0 := a_ (hbox); have E0 := a_ ((gE_ hg : w.heap.size ≤ g0)); replace HB := a_ (below_step hB_ hb); clear hb hbox hg) | ((with_reducible refine gate_dst (N := 3) rfl ?_); refine boxE_ 3 #[.int .i64 a1_0, .int .i64 a1_1, .slice A1_2 l1_2.length c1_2, .string a1_3] 24 ?_; intro g1 hg w8 hbox hb; have B1 := a_ (hbox); have E1 := a_ ((gE_ hg : w.heap.size ≤ g1)); replace HB := a_ (below_step hC_ hb); have N0 := a_ ((bL_ B0.out hg : g0 ≠ g1)); have N1 := a_ ((bG_ B0.out hg : g1 ≠ g0)); replace B0 := a_ (bB_ B0.out hb); clear hb hbox hg; have m2 := N0.out; have n2 := N1.out; obtain ⟨z16, z17, z18, z19, f16, f17, f18, f19⟩ := bx4_ B0.out; obtain ⟨z20, z21, z22, z23, f20, f21, f22, f23⟩ := bx4_ B1.out) | (go_at_call 28; (with_reducible refine (sleuthlaw0_SameTexts.calls k _ _ l0_2 _ _ l1_2 true _ ?s1 ?s2 ?s3 ?s4 A5.out).mono ?_); (case s1 => exact cB_ HR0_2.out); (case s2 => exact HC0_2.out); (case s3 => exact cB_ HR1_2.out); (case s4 => exact HC1_2.out); rintro e w' ⟨rfl, ⟨nd, rfl⟩⟩))
  go_ret
  exact ⟨hV_, hC_⟩
 replace c6 := Bool.eq_false_iff.mpr c6
 subst c6
 rw [if_neg (show ¬ (false = true) by decide)] at H
 obtain rfl := Option.some.inj H
 go_enter Tryd.func13, Tryd.ntmps13
 go_wp2_with (first | ((with_reducible refine gate_dst (N := 2) rfl ?_); refine boxE_ 2 #[.int .i64 a0_0, .int .i64 a0_1, .slice A0_2 l0_2.length c0_2, .string a0_3] 24 ?_; intro g0 hg w4 hbox hb; have B0 := a_ (hbox); have E0 := a_ ((gE_ hg : w.heap.size ≤ g0)); replace HB := a_ (below_step hB_ hb); clear hb hbox hg) | ((with_reducible refine gate_dst (N := 3) rfl ?_); refine boxE_ 3 #[.int .i64 a1_0, .int .i64 a1_1, .slice A1_2 l1_2.length c1_2, .string a1_3] 24 ?_; intro g1 hg w5 hbox hb; have B1 := a_ (hbox); have E1 := a_ ((gE_ hg : w.heap.size ≤ g1)); replace HB := a_ (below_step hC_ hb); have N0 := a_ ((bL_ B0.out hg : g0 ≠ g1)); have N1 := a_ ((bG_ B0.out hg : g1 ≠ g0)); replace B0 := a_ (bB_ B0.out hb); clear hb hbox hg; have m3 := N0.out; have n3 := N1.out; obtain ⟨z24, z25, z26, z27, f24, f25, f26, f27⟩ := bx4_ B0.out; obtain ⟨z28, z29, z30, z31, f28, f29, f30, f31⟩ := bx4_ B1.out) | (go_at_call 28; (with_reducible refine (sleuthlaw0_SameTexts.calls k _ _ l0_2 _ _ l1_2 false _ ?s1 ?s2 ?s3 ?s4 A5.out).mono ?_); (case s1 => exact cB_ HR0_2.out); (case s2 => exact HC0_2.out); (case s3 => exact cB_ HR1_2.out); (case s4 => exact HC1_2.out); rintro e w' ⟨rfl, ⟨nd, rfl⟩⟩))
 go_ret
 exact ⟨hV_, hC_⟩
end Go.Proofs.YthoegphcmkejoaaDoor.G
end
section
namespace Go.Proofs.YthoegphcmkejoaaDoor.G
open Go.RowKit Go.Proofs.YthoegphcmkejoaaDoorW.PrintWords Go.Proofs.YthoegphcmkejoaaDoorW.PrintLast Go.Proofs.YthoegphcmkejoaaDoorW.PrintMore
set_option linter.unusedVariables false
set_option linter.unusedSimpArgs false
def fineN (l : List Nd) : Prop := l.length * 56 ≤ 140737488351232 ∧ ∀ x ∈ l, (Lit.int .i64 x.f0).wf = true ∧ (Lit.int .i64 x.f1).wf = true ∧ (x.f2.length * 16 ≤ 140737488351232 ∧ ∀ s ∈ x.f2, s.size ≤ 140737488351232) ∧ x.f3.size ≤ 140737488351232
theorem fineN.ok {l : List Nd} (h : fineN l) : okN l := ⟨by have := h.1; omega, fun x hx => by have := (h.2 x hx).2.2.1.1; omega⟩
theorem wf_i64 {x : Int} (h : (Lit.int .i64 x).wf = true) : -9223372036854775808 ≤ x ∧ x ≤ 9223372036854775807 := by
  simp [Lit.wf, IntKind.min, IntKind.max, IntKind.bits, IntKind.signed] at h
  omega
theorem sameTexts_l0 (a : List ByteArray) (ha : a.length ≤ 9223372036854775806) : ∀ (n i : Nat), i + n = a.length → Ev (fun k => sleuthlaw0_SameTexts.l0 k a a (i : Int)) true := by
  intro n
  induction n with
  | zero =>
    intro i hi
    refine Ev.step (f := fun _ => some true) (fun k => ?_) (Ev.now _)
    rw [sleuthlaw0_SameTexts.l0, if_neg (by omega)]
  | succ n ih =>
    intro i hi
    have hw : wrap64 ((i : Int) + 1) = ((i + 1 : Nat) : Int) := by rw [w64 (by omega) (by omega)]; omega
    refine Ev.step (f := fun k => sleuthlaw0_SameTexts.l0 k a a ((i + 1 : Nat) : Int)) (fun k => ?_) (ih (i + 1) (by omega))
    rw [sleuthlaw0_SameTexts.l0, if_pos (by omega), if_pos (by omega), if_pos (by omega), if_pos rfl, hw]
theorem sameTexts_ev (a : List ByteArray) (ha : a.length ≤ 9223372036854775806) : Ev (fun k => sleuthlaw0_SameTexts.f k a a) true := by
  unfold sleuthlaw0_SameTexts.f
  simp only [if_pos]
  exact sameTexts_l0 a ha a.length 0 (by omega)
theorem sameNode_ev (x : Nd) (hx : x.f2.length ≤ 9223372036854775806) : Ev (fun k => sleuthlaw0_SameNode.f k x.f0 x.f1 x.f2 x.f3 x.f0 x.f1 x.f2 x.f3) true := by
  unfold sleuthlaw0_SameNode.f
  simp only [if_pos]
  refine Ev.bind (sameTexts_ev _ hx) ?_
  simp only [if_pos, beq_self_eq_true]
  exact Ev.now _
end Go.Proofs.YthoegphcmkejoaaDoor.G
end
section
namespace Go.Proofs.YthoegphcmkejoaaDoor.G
open Go.RowKit Go.Proofs.YthoegphcmkejoaaDoorW.PrintWords Go.Proofs.YthoegphcmkejoaaDoorW.PrintLast Go.Proofs.YthoegphcmkejoaaDoorW.PrintMore
set_option maxHeartbeats 8000000
set_option maxRecDepth 100000
attribute [local go_sem] max2_int min2_int max_two min_two max_three min_three max_four min_four   -- for this text's walks alone
set_option linter.unusedVariables false
set_option linter.unusedSimpArgs false

def sleuthlaw15_some.f  : Option ((List (S24))) := some (([(⟨0, (-1), ([] : List ByteArray), (⟨#[57]⟩ : ByteArray)⟩ : S24), (⟨1, 0, (([(⟨#[64, 55, 40, 95, 32, 52, 41]⟩ : ByteArray), (⟨#[53]⟩ : ByteArray)] : List ByteArray)), (⟨#[57]⟩ : ByteArray)⟩ : S24), (⟨2, 0, ([] : List ByteArray), (⟨#[33]⟩ : ByteArray)⟩ : S24), (⟨1, 1, (([(⟨#[49]⟩ : ByteArray), (⟨#[95]⟩ : ByteArray)] : List ByteArray)), (⟨#[95]⟩ : ByteArray)⟩ : S24), (⟨1, 2, (([(⟨#[49]⟩ : ByteArray), (⟨#[95]⟩ : ByteArray)] : List ByteArray)), (⟨#[95]⟩ : ByteArray)⟩ : S24)] : List (S24)))
theorem sleuthlaw15_some.calls  (r : List (S24)) (w : World) (h : sleuthlaw15_some.f  = some r) :
 Calls Tryd.prog 16 #[] w fun e w' => ∃ v0_ : Value, e = .returned (v0_) ∧ Kd.N k24 24 w' w.heap.size (fun k_ => (w.heap.size ≤ k_)) v0_ r ∧ Below w.heap.size w w' := by
 have hu24 := Tryd.underlying24
 have HB := a_ (Below.refl w.heap.size w)
 have H := h; unfold sleuthlaw15_some.f at H
 clear h
 obtain ⟨y0, i0⟩ : ∃ y_ : List ByteArray, y_ = (([(⟨#[64, 55, 40, 95, 32, 52, 41]⟩ : ByteArray), (⟨#[53]⟩ : ByteArray)] : List ByteArray)) := ⟨_, rfl⟩
 replace H : (some (([(⟨0, (-1), ([] : List ByteArray), (⟨#[57]⟩ : ByteArray)⟩ : S24), (⟨1, 0, y0, (⟨#[57]⟩ : ByteArray)⟩ : S24), (⟨2, 0, ([] : List ByteArray), (⟨#[33]⟩ : ByteArray)⟩ : S24), (⟨1, 1, (([(⟨#[49]⟩ : ByteArray), (⟨#[95]⟩ : ByteArray)] : List ByteArray)), (⟨#[95]⟩ : ByteArray)⟩ : S24), (⟨1, 2, (([(⟨#[49]⟩ : ByteArray), (⟨#[95]⟩ : ByteArray)] : List ByteArray)), (⟨#[95]⟩ : ByteArray)⟩ : S24)] : List (S24)))) = some r := by first | (rw [i0]; with_reducible exact H) | (have H2_ := (Option.bind_some _ _).symm.trans H; rw [i0]; with_reducible exact H2_) | (have H2_ := (Option.bind_some _ _).symm.trans H; with_reducible exact H2_) | with_reducible exact H | (rw [i0]; exact H) | exact H
 have Y0 := a_ i0
 clear i0
 obtain ⟨y1, i1⟩ : ∃ y_ : List ByteArray, y_ = (([(⟨#[49]⟩ : ByteArray), (⟨#[95]⟩ : ByteArray)] : List ByteArray)) := ⟨_, rfl⟩
 replace H : (some (([(⟨0, (-1), ([] : List ByteArray), (⟨#[57]⟩ : ByteArray)⟩ : S24), (⟨1, 0, y0, (⟨#[57]⟩ : ByteArray)⟩ : S24), (⟨2, 0, ([] : List ByteArray), (⟨#[33]⟩ : ByteArray)⟩ : S24), (⟨1, 1, y1, (⟨#[95]⟩ : ByteArray)⟩ : S24), (⟨1, 2, (([(⟨#[49]⟩ : ByteArray), (⟨#[95]⟩ : ByteArray)] : List ByteArray)), (⟨#[95]⟩ : ByteArray)⟩ : S24)] : List (S24)))) = some r := by first | (rw [i1]; with_reducible exact H) | (have H2_ := (Option.bind_some _ _).symm.trans H; rw [i1]; with_reducible exact H2_) | (have H2_ := (Option.bind_some _ _).symm.trans H; with_reducible exact H2_) | with_reducible exact H | (rw [i1]; exact H) | exact H
 have Y1 := a_ i1
 clear i1
 obtain ⟨y2, i2⟩ : ∃ y_ : List ByteArray, y_ = (([(⟨#[49]⟩ : ByteArray), (⟨#[95]⟩ : ByteArray)] : List ByteArray)) := ⟨_, rfl⟩
 replace H : (some (([(⟨0, (-1), ([] : List ByteArray), (⟨#[57]⟩ : ByteArray)⟩ : S24), (⟨1, 0, y0, (⟨#[57]⟩ : ByteArray)⟩ : S24), (⟨2, 0, ([] : List ByteArray), (⟨#[33]⟩ : ByteArray)⟩ : S24), (⟨1, 1, y1, (⟨#[95]⟩ : ByteArray)⟩ : S24), (⟨1, 2, y2, (⟨#[95]⟩ : ByteArray)⟩ : S24)] : List (S24)))) = some r := by first | (rw [i2]; with_reducible exact H) | (have H2_ := (Option.bind_some _ _).symm.trans H; rw [i2]; with_reducible exact H2_) | (have H2_ := (Option.bind_some _ _).symm.trans H; with_reducible exact H2_) | with_reducible exact H | (rw [i2]; exact H) | exact H
 have Y2 := a_ i2
 clear i2
 obtain ⟨y3, i3⟩ : ∃ y_ : List (S24), y_ = (([(⟨0, (-1), ([] : List ByteArray), (⟨#[57]⟩ : ByteArray)⟩ : S24), (⟨1, 0, y0, (⟨#[57]⟩ : ByteArray)⟩ : S24), (⟨2, 0, ([] : List ByteArray), (⟨#[33]⟩ : ByteArray)⟩ : S24), (⟨1, 1, y1, (⟨#[95]⟩ : ByteArray)⟩ : S24), (⟨1, 2, y2, (⟨#[95]⟩ : ByteArray)⟩ : S24)] : List (S24))) := ⟨_, rfl⟩
 replace H : (some y3) = some r := by first | (rw [i3]; with_reducible exact H) | (have H2_ := (Option.bind_some _ _).symm.trans H; rw [i3]; with_reducible exact H2_) | (have H2_ := (Option.bind_some _ _).symm.trans H; with_reducible exact H2_) | with_reducible exact H | (rw [i3]; exact H) | exact H
 have Y3 := a_ i3
 clear i3
 obtain rfl := Option.some.inj H
 go_enter Tryd.func16, Tryd.ntmps16
 go_wp2_with (first | ((with_reducible refine gate_dst (N := 2) rfl ?_); refine Kd.R_lit Kd.string _ 9 ?hg (N := 2) ?hd (xs := ([(⟨#[64, 55, 40, 95, 32, 52, 41]⟩ : ByteArray), (⟨#[53]⟩ : ByteArray)] : List ByteArray)) (inner := [.string (⟨#[64, 55, 40, 95, 32, 52, 41]⟩ : ByteArray), .string (⟨#[53]⟩ : ByteArray)]) (ok := fun _ => True) (okp := fun _ => True) ?hr ?hp (fun _ hk => hk) trivial (Below.refl _ _) (Nat.le_refl _) (by simp) ?_; (case hd => rfl); (case hg => rfl); (case hr => first | (go_simp; done) | (go_simp; rfl)); (case hp => exact (Reps.one (show Kd.M Kd.string _ _ _ (⟨#[64, 55, 40, 95, 32, 52, 41]⟩ : ByteArray) [.string (⟨#[64, 55, 40, 95, 32, 52, 41]⟩ : ByteArray)] from rfl) (Reps.one (show Kd.M Kd.string _ _ _ (⟨#[53]⟩ : ByteArray) [.string (⟨#[53]⟩ : ByteArray)] from rfl) (Reps.none _ _)))); intro v0 w1 ho2 hb hg_ hnew_; clear hg_ hnew_; (first | rw [← Y0.out] at ho2 | (simp only [Int.reduceToNat] at ho2; rw [← Y0.out] at ho2)); have P0 := a_ (Kd.R_lower (Kd.R_newM (M := fun k_ => (w.heap.size ≤ k_)) ho2 hS_ (fun k_ h_ => h_)) hS_); replace HB := a_ (below_step hB_ hb); clear hb ho2; obtain ⟨a0, o0, e0⟩ := Kd.R_slice P0.out; subst e0) | ((with_reducible refine gate_dst (N := 5) rfl ?_); refine Kd.R_lit Kd.string _ 9 ?hg (N := 5) ?hd (xs := ([(⟨#[49]⟩ : ByteArray), (⟨#[95]⟩ : ByteArray)] : List ByteArray)) (inner := [.string (⟨#[49]⟩ : ByteArray), .string (⟨#[95]⟩ : ByteArray)]) (ok := fun _ => True) (okp := fun _ => True) ?hr ?hp (fun _ hk => hk) trivial (Below.refl _ _) (Nat.le_refl _) (by simp) ?_; (case hd => rfl); (case hg => rfl); (case hr => first | (go_simp; done) | (go_simp; rfl)); (case hp => exact (Reps.one (show Kd.M Kd.string _ _ _ (⟨#[49]⟩ : ByteArray) [.string (⟨#[49]⟩ : ByteArray)] from rfl) (Reps.one (show Kd.M Kd.string _ _ _ (⟨#[95]⟩ : ByteArray) [.string (⟨#[95]⟩ : ByteArray)] from rfl) (Reps.none _ _)))); intro v1 w4 ho5 hb hg_ hnew_; clear hg_ hnew_; (first | rw [← Y1.out] at ho5 | (simp only [Int.reduceToNat] at ho5; rw [← Y1.out] at ho5)); have P1 := a_ (Kd.R_lower (Kd.R_new' (Kd.R_newM (M := fun k_ => (w.heap.size ≤ k_)) ho5 hS_ (fun k_ h_ => h_)) (Kd.R_lt (hR_ P0.out))) hS_); replace P0 := a_ (Kd.R_elder' (hR_ P0.out) (Kd.R_base ho5) hb); replace HB := a_ (below_step hB_ hb); clear hb ho5; obtain ⟨a1, o1, e1⟩ := Kd.R_slice P1.out; subst e1) | ((with_reducible refine gate_dst (N := 7) rfl ?_); refine Kd.R_lit Kd.string _ 9 ?hg (N := 7) ?hd (xs := ([(⟨#[49]⟩ : ByteArray), (⟨#[95]⟩ : ByteArray)] : List ByteArray)) (inner := [.string (⟨#[49]⟩ : ByteArray), .string (⟨#[95]⟩ : ByteArray)]) (ok := fun _ => True) (okp := fun _ => True) ?hr ?hp (fun _ hk => hk) trivial (Below.refl _ _) (Nat.le_refl _) (by simp) ?_; (case hd => rfl); (case hg => rfl); (case hr => first | (go_simp; done) | (go_simp; rfl)); (case hp => exact (Reps.one (show Kd.M Kd.string _ _ _ (⟨#[49]⟩ : ByteArray) [.string (⟨#[49]⟩ : ByteArray)] from rfl) (Reps.one (show Kd.M Kd.string _ _ _ (⟨#[95]⟩ : ByteArray) [.string (⟨#[95]⟩ : ByteArray)] from rfl) (Reps.none _ _)))); intro v2 w7 ho8 hb hg_ hnew_; clear hg_ hnew_; (first | rw [← Y2.out] at ho8 | (simp only [Int.reduceToNat] at ho8; rw [← Y2.out] at ho8)); have P2 := a_ (Kd.R_lower (Kd.R_new' (Kd.R_new' (Kd.R_newM (M := fun k_ => (w.heap.size ≤ k_)) ho8 hS_ (fun k_ h_ => h_)) (Kd.R_lt (hR_ P0.out))) (Kd.R_lt (hR_ P1.out))) hS_); replace P0 := a_ (Kd.R_elder' (hR_ P0.out) (Kd.R_base ho8) hb); replace P1 := a_ (Kd.R_elder' (hR_ P1.out) (Kd.R_base ho8) hb); replace HB := a_ (below_step hB_ hb); clear hb ho8; obtain ⟨a2, o2, e2⟩ := Kd.R_slice P2.out; subst e2) | ((with_reducible refine gate_dst (N := 9) rfl ?_); refine Kd.N_lit k24 _ 24 ?hg (N' := 9) ?hd (xs := ([(⟨0, (-1), ([] : List ByteArray), (⟨#[57]⟩ : ByteArray)⟩ : S24), (⟨1, 0, y0, (⟨#[57]⟩ : ByteArray)⟩ : S24), (⟨2, 0, ([] : List ByteArray), (⟨#[33]⟩ : ByteArray)⟩ : S24), (⟨1, 1, y1, (⟨#[95]⟩ : ByteArray)⟩ : S24), (⟨1, 2, y2, (⟨#[95]⟩ : ByteArray)⟩ : S24)] : List (S24))) (inner := [.int .i64 0, .int .i64 (-1), .slice none 0 0, .string (⟨#[57]⟩ : ByteArray), .int .i64 1, .int .i64 0, .slice a0 y0.length o0, .string (⟨#[57]⟩ : ByteArray), .int .i64 2, .int .i64 0, .slice none 0 0, .string (⟨#[33]⟩ : ByteArray), .int .i64 1, .int .i64 1, .slice a1 y1.length o1, .string (⟨#[95]⟩ : ByteArray), .int .i64 1, .int .i64 2, .slice a2 y2.length o2, .string (⟨#[95]⟩ : ByteArray)]) (ok := (fun k_ => (w.heap.size ≤ k_))) (okp := (fun k_ => (w.heap.size ≤ k_))) ?hr ?hp (fun _ hk => hk) ((show ∀ k_, w7.heap.size ≤ k_ → (fun k_ => (w.heap.size ≤ k_)) k_ from fun k_ hk => (Nat.le_trans hS_ hk)) _ (Nat.le_refl _)) (Below.refl _ _) (Nat.le_refl _) (by simp) ?_; (case hd => rfl); (case hg => rfl); (case hr => first | (go_simp; done) | (go_simp; rfl)); (case hp => exact (Reps.c4 (show Kd.FK k24 _ _ (⟨0, (-1), ([] : List ByteArray), (⟨#[57]⟩ : ByteArray)⟩ : S24) [.int .i64 0, .int .i64 (-1), .slice none 0 0, .string (⟨#[57]⟩ : ByteArray)] from (k24_mkF _ _ (⟨0, (-1), ([] : List ByteArray), (⟨#[57]⟩ : ByteArray)⟩ : S24) (Nat.le_refl _) (Kd.F_nil _ _ _))) (Reps.c4 (show Kd.FK k24 _ _ (⟨1, 0, y0, (⟨#[57]⟩ : ByteArray)⟩ : S24) [.int .i64 1, .int .i64 0, .slice a0 y0.length o0, .string (⟨#[57]⟩ : ByteArray)] from (k24_mkF _ _ (⟨1, 0, y0, (⟨#[57]⟩ : ByteArray)⟩ : S24) (Kd.R_reads' (Kd.R_mono (ok' := (fun k_ => (w.heap.size ≤ k_))) (P0.out) (fun k_ hk => hk.1.1.1))).2.1 (Kd.R_F (Kd.R_mono (ok' := (fun k_ => (w.heap.size ≤ k_))) (P0.out) (fun k_ hk => hk.1.1.1))))) (Reps.c4 (show Kd.FK k24 _ _ (⟨2, 0, ([] : List ByteArray), (⟨#[33]⟩ : ByteArray)⟩ : S24) [.int .i64 2, .int .i64 0, .slice none 0 0, .string (⟨#[33]⟩ : ByteArray)] from (k24_mkF _ _ (⟨2, 0, ([] : List ByteArray), (⟨#[33]⟩ : ByteArray)⟩ : S24) (Nat.le_refl _) (Kd.F_nil _ _ _))) (Reps.c4 (show Kd.FK k24 _ _ (⟨1, 1, y1, (⟨#[95]⟩ : ByteArray)⟩ : S24) [.int .i64 1, .int .i64 1, .slice a1 y1.length o1, .string (⟨#[95]⟩ : ByteArray)] from (k24_mkF _ _ (⟨1, 1, y1, (⟨#[95]⟩ : ByteArray)⟩ : S24) (Kd.R_reads' (Kd.R_mono (ok' := (fun k_ => (w.heap.size ≤ k_))) (P1.out) (fun k_ hk => hk.1.1.1))).2.1 (Kd.R_F (Kd.R_mono (ok' := (fun k_ => (w.heap.size ≤ k_))) (P1.out) (fun k_ hk => hk.1.1.1))))) (Reps.c4 (show Kd.FK k24 _ _ (⟨1, 2, y2, (⟨#[95]⟩ : ByteArray)⟩ : S24) [.int .i64 1, .int .i64 2, .slice a2 y2.length o2, .string (⟨#[95]⟩ : ByteArray)] from (k24_mkF _ _ (⟨1, 2, y2, (⟨#[95]⟩ : ByteArray)⟩ : S24) (Kd.R_reads' (Kd.R_mono (ok' := (fun k_ => (w.heap.size ≤ k_))) (P2.out) (fun k_ hk => hk.1.1.1))).2.1 (Kd.R_F (Kd.R_mono (ok' := (fun k_ => (w.heap.size ≤ k_))) (P2.out) (fun k_ hk => hk.1.1.1))))) (Reps.none _ _))))))); intro v3 w0 ho11 hb hg_ hnew_; clear hg_ hnew_; (first | rw [← Y3.out] at ho11 | (simp only [Int.reduceToNat] at ho11; rw [← Y3.out] at ho11)); have P3 := a_ (Kd.N_lower ho11 hS_); replace HB := a_ (below_step hB_ hb); clear P0 P1 P2; clear hb ho11))
 go_ret
 exact ⟨_, hV_, hN_ P3.out, hC_⟩

set_option maxHeartbeats 8000000
set_option maxRecDepth 100000
attribute [local go_sem] max2_int min2_int max_two min_two max_three min_three max_four min_four   -- for this text's walks alone
set_option linter.unusedVariables false
set_option linter.unusedSimpArgs false

def sleuthlaw15_awake.f (k : Nat) : Option Bool := (sleuthlaw15_some.f).bind fun la => if 3 < (la.length : Int) then (record_Put.f k (rd_T24 la 3).f0 (rd_T24 la 3).f1 (rd_T24 la 3).f2 (rd_T24 la 3).f3).bind fun p => (record_Get.f k p.1).bind fun x => (record_Put.f k 0 0 ([] : List ByteArray) (⟨#[]⟩ : ByteArray)).bind fun q => (record_Get.f k (⟨#[]⟩ : ByteArray)).bind fun z =>
 if p.1.toList = ([1, 2, 0, 2, 1, 0, 49, 1, 0, 95, 1, 0, 95] : List UInt8) then (sleuthlaw0_Num.f p.2).bind fun t1 => if t1 = 0 then (sleuthlaw15_some.f).bind fun lb => if 3 < (lb.length : Int) then (sleuthlaw0_SameNode.f k x.1 x.2.1 x.2.2.1 x.2.2.2.1 (rd_T24 lb 3).f0 (rd_T24 lb 3).f1 (rd_T24 lb 3).f2 (rd_T24 lb 3).f3).bind fun t2 => if t2 = true then (sleuthlaw0_Num.f x.2.2.2.2).bind fun t3 => if t3 = 0 then (sleuthlaw0_Num.f q.2).bind fun t4 => if t4 = 1500 then (sleuthlaw0_Num.f z.2.2.2.2).bind fun t5 => some (t5 == 1500) else none else none else none else none else none else none else none
def sleuthlaw15_awake.T5 : Bool × List (List Nat × List Nat) := (true, [([], []), ([0], [0]), ([1], [1]), ([2], [2]), ([3, 2, 2], [2, 3]), ([4, 2], [2, 4]), ([2, 5], [2, 5]), ([6, 4], [6]), ([7], [7]), ([7, 7], [7]), ([9, 7], [7, 9]), ([10, 7], [7, 10]), ([8, 11, 9, 7], [7, 8, 11]), ([7, 12], [7, 12]), ([13, 12], [13]), ([14], [14]), ([15, 14, 14], [14, 15]), ([16, 14], [14, 16]), ([14, 17], [14, 17]), ([18, 16], [18]), ([19], [19]), ([20, 19, 19], [19, 20]), ([21, 19], [19, 21]), ([19, 22], [19, 22]), ([23, 21], [23]), ([24], [24]), ([25, 24, 24], [24, 25]), ([26, 24], [24, 26]), ([24, 27], [24, 27]), ([28, 26, 0, 1, 2, 3, 4, 5, 6, 7, 8, 9, 10, 11, 12, 13, 14, 15, 16, 17, 18, 19, 20, 21, 22, 23, 24, 25, 26, 27, 28], [28])])
def sleuthlaw15_awake.B5 : List Nat := [0, 1, 3, 7, 15, 31, 63, 127, 255, 255, 767, 1791, 4095, 8191, 16383, 32767, 65535, 131071, 262143, 524287, 1048575, 2097151, 4194303, 8388607, 16777215, 33554431, 67108863, 134217727, 268435455, 536870911]
theorem sleuthlaw15_awake.tab5 : rtab .any (opsOf Tryd.f15 5) = sleuthlaw15_awake.T5 := by kernel_rfl
theorem sleuthlaw15_awake.bits5 : waitsOk sleuthlaw15_awake.T5.2 sleuthlaw15_awake.B5 = true := by kernel_rfl
theorem sleuthlaw15_awake.calls (k : Nat) (r : Bool) (w : World) (h : sleuthlaw15_awake.f k = some r) (hG : GOK w) :
 Calls Tryd.prog 15 #[] w fun e w' => e = .returned (.bool r) ∧ Below w.heap.size w w' := by
 have hu := Tryd.underlying24
 have HB := a_ (Below.refl w.heap.size w)
 have HX := a_ (Below.refl w.heap.size w)
 unfold sleuthlaw15_awake.f at h
 obtain ⟨la, B0_, h⟩ := Option.bind_eq_some_iff.mp h
 (try dsimp only at h)
 have B0 := a_ B0_
 clear B0_
 by_cases cA : 3 < (la.length : Int)
 case neg => rw [if_neg cA] at h; cases h
 rw [if_pos cA] at h
 obtain ⟨⟨p, e1⟩, B1_, h⟩ := Option.bind_eq_some_iff.mp h
 (try dsimp only at h)
 have B1 := a_ B1_
 clear B1_
 obtain ⟨⟨x0, x1, x2, x3, e2⟩, B2_, h⟩ := Option.bind_eq_some_iff.mp h
 (try dsimp only at h)
 have B2 := a_ B2_
 clear B2_
 obtain ⟨⟨q, e3⟩, B3_, h⟩ := Option.bind_eq_some_iff.mp h
 (try dsimp only at h)
 have B3 := a_ B3_
 clear B3_
 obtain ⟨⟨z0, z1, z2, z3, e4⟩, B4_, h⟩ := Option.bind_eq_some_iff.mp h
 (try dsimp only at h)
 have B4 := a_ B4_
 clear B4_
 by_cases cP : p.toList = ([1, 2, 0, 2, 1, 0, 49, 1, 0, 95, 1, 0, 95] : List UInt8)
 case neg => rw [if_neg cP] at h; cases h
 rw [if_pos cP] at h
 obtain ⟨t1, B5_, h⟩ := Option.bind_eq_some_iff.mp h
 (try dsimp only at h)
 have B5 := a_ B5_
 clear B5_
 by_cases c1 : t1 = 0
 case neg => rw [if_neg c1] at h; cases h
 rw [if_pos c1] at h
 obtain ⟨lb, B6_, h⟩ := Option.bind_eq_some_iff.mp h
 (try dsimp only at h)
 have B6 := a_ B6_
 clear B6_
 by_cases cB : 3 < (lb.length : Int)
 case neg => rw [if_neg cB] at h; cases h
 rw [if_pos cB] at h
 obtain ⟨t2, B7_, h⟩ := Option.bind_eq_some_iff.mp h
 (try dsimp only at h)
 have B7 := a_ B7_
 clear B7_
 by_cases c2 : t2 = true
 case neg => rw [if_neg c2] at h; cases h
 rw [if_pos c2] at h
 obtain ⟨t3, B8_, h⟩ := Option.bind_eq_some_iff.mp h
 (try dsimp only at h)
 have B8 := a_ B8_
 clear B8_
 by_cases c3 : t3 = 0
 case neg => rw [if_neg c3] at h; cases h
 rw [if_pos c3] at h
 obtain ⟨t4, B9_, h⟩ := Option.bind_eq_some_iff.mp h
 (try dsimp only at h)
 have B9 := a_ B9_
 clear B9_
 by_cases c4 : t4 = 1500
 case neg => rw [if_neg c4] at h; cases h
 rw [if_pos c4] at h
 obtain ⟨t5, B10_, h⟩ := Option.bind_eq_some_iff.mp h
 (try dsimp only at h)
 have B10 := a_ B10_
 clear B10_
 obtain rfl := Option.some.inj h
 subst c2
 clear h
 have cPa : (p.toList == ([1, 2, 0, 2, 1, 0, 49, 1, 0, 95, 1, 0, 95] : List UInt8)) = true := beq_iff_eq.mpr cP
 have c1a : (t1 == 0) = true := beq_iff_eq.mpr c1
 have c3a : (t3 == 0) = true := beq_iff_eq.mpr c3
 have c4a : (t4 == 1500) = true := beq_iff_eq.mpr c4
 have HcA := a_ cA
 have HcB := a_ cB
 clear cP c1 c3 c4 cA cB
 go_enter Tryd.func15, Tryd.ntmps15
 go_upto_region 5 with (first
  | ((with_reducible refine gate_callee (f := 16) rfl ?_); refine goesL_ _ rfl rfl Tryd.func16 (by kernel_rfl) rfl #[] rfl hL_ ?_; (with_reducible refine (sleuthlaw15_some.calls la _ B0.out).mono ?_); rintro e wc1 ⟨v0_, rfl, hn0, hb⟩; refine ⟨_, rfl, ?_⟩; have hs_ := below_step hC_ hb; obtain ⟨Ala, cla, rfl⟩ := Kd.N_slice hn0; have HOla := a_ (Kd.N_reads' hn0).2.2; have HCla := a_ (Kd.N_reads' hn0).2.1; replace HX := a_ (below_step HX.out hs_); replace HB := a_ (Below.refl wc1.heap.size wc1); clear hs_ hb hn0; obtain ⟨adA, AA, cA, edA, hxA0, hxA1, hxA2, hxA3, hlenA, hrowA⟩ := at_T24 HOla.out 3 (by omega) HcA.out; cases edA; (try simp only [show (3 : Int).toNat = 3 from rfl, Nat.reduceMul] at hxA0 hxA1 hxA2 hxA3); simp only [Addr.add, eq_false (show ¬ ((12 : Nat) = 0) by decide), if_false, eq_false (show ¬ ((1 : Nat) = 0) by decide), eq_false (show ¬ ((2 : Nat) = 0) by decide), eq_false (show ¬ ((3 : Nat) = 0) by decide)] at hxA0 hxA1 hxA2 hxA3; have HLenA := a_ hlenA; have HRowA := a_ hrowA; have hqA := eq_true HcA.out; clear hlenA hrowA)
  | ((with_reducible refine gate_callee (f := 8) rfl ?_); refine goesL_ _ rfl rfl Tryd.func8 (by kernel_rfl) rfl #[.agg #[.int .i64 (rd_T24 la 3).f0, .int .i64 (rd_T24 la 3).f1, .slice AA (rd_T24 la 3).f2.length cA, .string (rd_T24 la 3).f3]] rfl hL_ ?_; (refine (record_Put.calls k (rd_T24 la 3).f0 (rd_T24 la 3).f1 _ _ (rd_T24 la 3).f2 (rd_T24 la 3).f3 p e1 _ ?s1 ?s2 B1.out (GOK.below hG (below_step HX.out hC_))).mono ?_); (case s1 => exact (Kd.C_below HRowA.out hC_)); (case s2 => exact HLenA.out); rintro e wc2 ⟨rfl, hb⟩; refine ⟨_, rfl, ?_⟩; have hs_ := below_step hC_ hb; replace HOla := a_ (Kd.C_below HOla.out hs_); replace HX := a_ (below_step HX.out hs_); replace HB := a_ (Below.refl wc2.heap.size wc2); clear hs_ hb)
  | ((with_reducible refine gate_callee (f := 10) rfl ?_); refine goesL_ _ rfl rfl Tryd.func10 (by kernel_rfl) rfl #[.string p] rfl hL_ ?_; (with_reducible refine (record_Get.calls k p x0 x1 x2 x3 e2 _ B2.out (GOK.below hG (below_step HX.out hC_))).mono ?_); rintro e wc3 ⟨v0_, rfl, hr0, hb⟩; refine ⟨_, rfl, ?_⟩; have hs_ := below_step hC_ hb; obtain ⟨Ax, cx, rfl⟩ := Kd.R_slice hr0; have HOx2 := a_ (Kd.R_reads' hr0).2.2; have HCx2 := a_ (Kd.R_reads' hr0).2.1; replace HOla := a_ (Kd.C_below HOla.out hs_); replace HX := a_ (below_step HX.out hs_); replace HB := a_ (Below.refl wc3.heap.size wc3); clear hs_ hb hr0)
  | ((with_reducible refine gate_dst (N := 3) rfl ?_); refine boxE_ 3 #[.int .i64 0, .int .i64 0, .slice none 0 0, .string ⟨#[]⟩] 24 ?_; intro g1 hg wb3 hbox hb; have E0 := a_ (gE_ hg : wc3.heap.size ≤ g1); have BK3 := a_ hbox; (try clear z4 f4 z5 f5 z6 f6 z7 f7); obtain ⟨z4, z5, z6, z7, f4, f5, f6, f7⟩ := bx4_ BK3.out; have hs_ := below_step hC_ hb; replace HB := a_ hs_; clear hs_ hb hbox hg)
  | ((with_reducible refine gate_callee (f := 8) rfl ?_); refine goesL_ _ rfl rfl Tryd.func8 (by kernel_rfl) rfl #[.agg #[.int .i64 0, .int .i64 0, .slice none 0 0, .string ⟨#[]⟩]] rfl hL_ ?_; (refine (record_Put.calls k 0 0 none 0 ([] : List ByteArray) (⟨#[]⟩ : ByteArray) q e3 _ ?s1 ?s2 B3.out (GOK.below hG (below_step HX.out hC_))).mono ?_); (case s1 => exact Kd.C_nil _ _); (case s2 => exact Nat.le_refl _); rintro e wc4 ⟨rfl, hb⟩; refine ⟨_, rfl, ?_⟩; have hs_ := below_step hC_ hb; replace HOla := a_ (Kd.C_below HOla.out hs_); replace HOx2 := a_ (Kd.C_below HOx2.out hs_); replace BK3 := a_ (blk_below (g := g1) (o := .cells #[.int .i64 x0, .int .i64 x1, .slice Ax x2.length cx, .string x3] 24 (0, 0)) (by (with_reducible repeat (first | refine blk_drewN ?_ _ | refine blk_drew ?_ | refine blk_alloc ?_ _)); exact (bP_ (bP_ (bP_ (bP_ (hK_ BK3.out)))))) hb); replace HX := a_ (below_step HX.out hs_); replace HB := a_ (Below.refl wc4.heap.size wc4); clear hs_ hb; (try clear z4 f4 z5 f5 z6 f6 z7 f7); obtain ⟨z4, z5, z6, z7, f4, f5, f6, f7⟩ := bx4_ BK3.out)
  | ((with_reducible refine gate_callee (f := 10) rfl ?_); refine goesL_ _ rfl rfl Tryd.func10 (by kernel_rfl) rfl #[.string ⟨#[]⟩] rfl hL_ ?_; (with_reducible refine (record_Get.calls k (⟨#[]⟩ : ByteArray) z0 z1 z2 z3 e4 _ B4.out (GOK.below hG (below_step HX.out hC_))).mono ?_); rintro e wc5 ⟨v0_, rfl, hr0, hb⟩; refine ⟨_, rfl, ?_⟩; have hs_ := below_step hC_ hb; obtain ⟨Az, cz, rfl⟩ := Kd.R_slice hr0; have HOz2 := a_ (Kd.R_reads' hr0).2.2; have HCz2 := a_ (Kd.R_reads' hr0).2.1; replace HOla := a_ (Kd.C_below HOla.out hs_); replace HOx2 := a_ (Kd.C_below HOx2.out hs_); replace BK3 := a_ (blk_below BK3.out hs_); replace HX := a_ (below_step HX.out hs_); replace HB := a_ (Below.refl wc5.heap.size wc5); clear hs_ hb hr0; (try clear z4 f4 z5 f5 z6 f6 z7 f7); obtain ⟨z4, z5, z6, z7, f4, f5, f6, f7⟩ := bx4_ BK3.out)
  | ((with_reducible refine gate_dst (N := 7) rfl ?_); refine boxE_ 7 #[.int .i64 0, .int .i64 0, .slice none 0 0, .string ⟨#[]⟩] 24 ?_; intro g0 hg wb7 hbox hb; have E1 := a_ (gE_ hg : wc5.heap.size ≤ g0); have m0 := (bL_ BK3.out hg : g1 ≠ g0); have m1 := (bG_ BK3.out hg : g0 ≠ g1); have BK7 := a_ hbox; (try clear z4 f4 z5 f5 z6 f6 z7 f7); obtain ⟨z4, z5, z6, z7, f4, f5, f6, f7⟩ := bx4_ (bB_ BK3.out hb); (try clear z8 f8 z9 f9 z10 f10 z11 f11); obtain ⟨z8, z9, z10, z11, f8, f9, f10, f11⟩ := bx4_ BK7.out; have hs_ := below_step hC_ hb; replace HB := a_ hs_; clear hs_ hb hbox hg))
 have hs_ : Below wc5.heap.size wc5 ((((wb7.setCell ⟨g0, 0, none⟩ (.int .i64 z0)).setCell ⟨g0, 1, none⟩ (.int .i64 z1)).setCell ⟨g0, 2, none⟩ (.slice Az z2.length cz)).setCell ⟨g0, 3, none⟩ (.string z3)) := hC_
 replace HOla := a_ (Kd.C_below HOla.out hs_)
 replace HOx2 := a_ (Kd.C_below HOx2.out hs_)
 replace HOz2 := a_ (Kd.C_below HOz2.out hs_)
 replace BK3 := a_ (blk_below BK3.out hs_)
 replace BK7 := a_ (show ((((wb7.setCell ⟨g0, 0, none⟩ (.int .i64 z0)).setCell ⟨g0, 1, none⟩ (.int .i64 z1)).setCell ⟨g0, 2, none⟩ (.slice Az z2.length cz)).setCell ⟨g0, 3, none⟩ (.string z3)).heap[g0]? = some (.cells #[.int .i64 z0, .int .i64 z1, .slice Az z2.length cz, .string z3] 24 (0, 0)) from (bP_ (bP_ (bP_ (bP_ (hK_ BK7.out))))))
 replace HX := a_ (below_step HX.out hs_)
 clear hs_ HB
 have HB := a_ (Below.refl ((((wb7.setCell ⟨g0, 0, none⟩ (.int .i64 z0)).setCell ⟨g0, 1, none⟩ (.int .i64 z1)).setCell ⟨g0, 2, none⟩ (.slice Az z2.length cz)).setCell ⟨g0, 3, none⟩ (.string z3)).heap.size ((((wb7.setCell ⟨g0, 0, none⟩ (.int .i64 z0)).setCell ⟨g0, 1, none⟩ (.int .i64 z1)).setCell ⟨g0, 2, none⟩ (.slice Az z2.length cz)).setCell ⟨g0, 3, none⟩ (.string z3)))
 generalize ((((wb7.setCell ⟨g0, 0, none⟩ (.int .i64 z0)).setCell ⟨g0, 1, none⟩ (.int .i64 z1)).setCell ⟨g0, 2, none⟩ (.slice Az z2.length cz)).setCell ⟨g0, 3, none⟩ (.string z3)) = wr6 at HOla HOx2 HOz2 BK3 BK7 HX HB ⊢
 refine start_ (n := 30) (S := fun w' => w'.cell? ⟨g1, 0, none⟩ = some (.int .i64 x0) ∧ w'.cell? ⟨g1, 1, none⟩ = some (.int .i64 x1) ∧ w'.cell? ⟨g1, 2, none⟩ = some (.slice Ax x2.length cx) ∧ w'.cell? ⟨g1, 3, none⟩ = some (.string x3) ∧ w'.cell? ⟨g0, 0, none⟩ = some (.int .i64 z0) ∧ w'.cell? ⟨g0, 1, none⟩ = some (.int .i64 z1) ∧ w'.cell? ⟨g0, 2, none⟩ = some (.slice Az z2.length cz) ∧ w'.cell? ⟨g0, 3, none⟩ = some (.string z3)) (ds := []) #[false, false, false, false, false, false, false, false, false, false, false, false, false, false, false, false, false, false, false, false, false, false, false, false, false, false, false, false, false, false] (by kernel_rfl) rfl rfl ⟨(blk_cell BK3.out 0).trans rfl, (blk_cell BK3.out 1).trans rfl, (blk_cell BK3.out 2).trans rfl, (blk_cell BK3.out 3).trans rfl, (blk_cell BK7.out 0).trans rfl, (blk_cell BK7.out 1).trans rfl, (blk_cell BK7.out 2).trans rfl, (blk_cell BK7.out 3).trans rfl⟩ (fun hHeld => ?_)
 refine with_tabW sleuthlaw15_awake.tab5 sleuthlaw15_awake.bits5 (fun HT_ HW_ => ?_)
 refine pB_ 0 30 HT_.out ?_
 refine pB_ 1 31 HT_.out ?_
 refine pB_ 2 32 HT_.out ?_
 refine pB_ 3 33 HT_.out ?_
 refine one_ (i := 4) (N := some 34) #[true, true, true, true, true, false, false, false, false, false, false, false, false, false, false, false, false, false, false, false, false, false, false, false, false, false, false, false, false, false] rfl rfl (one_of HT_.out (by kernel_rfl)) (by decide) (fun K hK => ?_)
 refine goes_ Tryd.func12 (by kernel_rfl) rfl #[.int .i64 e1] (by rfl) rfl rfl hL_ ?_
 with_reducible refine (sleuthlaw0_Num.calls e1 t1 _ B5.out).mono ?_
 rintro e w' ⟨rfl, ⟨nq_, rfl⟩⟩
 refine ⟨_, rfl, ?_⟩
 refine hK.out _ _ ⟨(blk_cell BK3.out 0).trans rfl, (blk_cell BK3.out 1).trans rfl, (blk_cell BK3.out 2).trans rfl, (blk_cell BK3.out 3).trans rfl, (blk_cell BK7.out 0).trans rfl, (blk_cell BK7.out 1).trans rfl, (blk_cell BK7.out 2).trans rfl, (blk_cell BK7.out 3).trans rfl⟩ (fun hHeld => ?_)
 clear hK K
 refine norm_ (a' := ?_) ?_ ?_
 rotate_left
 · show Act.put _ (some 34) _ = _
   simp only [Act.put, List.setIfInBounds_toArray, List.set_cons_zero, List.set_cons_succ, i64_w, i32_w]
   rfl
 refine pB_ 5 35 HT_.out ?_
 refine pB_ 6 36 HT_.out ?_
 refine pB_ 7 37 HT_.out ?_
 refine tB_ 8 38 HT_.out HW_.out hHeld ?_
 refine one_ (i := 9) (N := some 39) #[true, true, true, true, true, true, true, true, true, true, false, false, false, false, false, false, false, false, false, false, false, false, false, false, false, false, false, false, false, false] rfl rfl (one_of HT_.out (by kernel_rfl)) (by decide) (fun K hK => ?_)
 refine goes_ Tryd.func16 (by kernel_rfl) rfl #[] (by rfl) rfl rfl hL_ ?_
 (with_reducible refine (sleuthlaw15_some.calls lb _ B6.out).mono ?_)
 rintro e wc7 ⟨v0_, rfl, hn0, hb⟩
 refine ⟨_, rfl, ?_⟩
 have hs_ := below_step hC_ hb
 obtain ⟨Alb, clb, rfl⟩ := Kd.N_slice hn0
 have HOlb := a_ (Kd.N_reads' hn0).2.2
 have HClb := a_ (Kd.N_reads' hn0).2.1
 replace HOla := a_ (Kd.C_below HOla.out hs_)
 replace HOx2 := a_ (Kd.C_below HOx2.out hs_)
 replace HOz2 := a_ (Kd.C_below HOz2.out hs_)
 replace BK3 := a_ (blk_below BK3.out hs_)
 replace BK7 := a_ (blk_below BK7.out hs_)
 replace HX := a_ (below_step HX.out hs_)
 replace HB := a_ (Below.refl wc7.heap.size wc7)
 clear hs_ hb hn0
 obtain ⟨adB, AB, cB, edB, hxB0, hxB1, hxB2, hxB3, hlenB, hrowB⟩ := at_T24 HOlb.out 3 (by omega) HcB.out
 cases edB
 (try simp only [show (3 : Int).toNat = 3 from rfl, Nat.reduceMul] at hxB0 hxB1 hxB2 hxB3)
 simp only [Addr.add, eq_false (show ¬ ((12 : Nat) = 0) by decide), if_false, eq_false (show ¬ ((1 : Nat) = 0) by decide), eq_false (show ¬ ((2 : Nat) = 0) by decide), eq_false (show ¬ ((3 : Nat) = 0) by decide)] at hxB0 hxB1 hxB2 hxB3
 have HLenB := a_ hlenB
 have HRowB := a_ hrowB
 have hqB := eq_true HcB.out
 clear hlenB hrowB
 refine hK.out _ _ ⟨(blk_cell BK3.out 0).trans rfl, (blk_cell BK3.out 1).trans rfl, (blk_cell BK3.out 2).trans rfl, (blk_cell BK3.out 3).trans rfl, (blk_cell BK7.out 0).trans rfl, (blk_cell BK7.out 1).trans rfl, (blk_cell BK7.out 2).trans rfl, (blk_cell BK7.out 3).trans rfl⟩ (fun hHeld => ?_)
 clear hK K
 refine norm_ (a' := ?_) ?_ ?_
 rotate_left
 · show Act.put _ (some 39) _ = _
   simp only [Act.put, List.setIfInBounds_toArray, List.set_cons_zero, List.set_cons_succ, i64_w, i32_w]
   rfl
 refine pB_ 10 40 HT_.out ?_
 refine one_ (i := 11) (N := some 41) #[true, true, true, true, true, true, true, true, true, true, true, true, false, false, false, false, false, false, false, false, false, false, false, false, false, false, false, false, false, false] rfl rfl (one_of HT_.out (by kernel_rfl)) (by decide) (fun K hK => ?_)
 refine value_ (w1 := ?_) (v := ?_) (by rfl) rfl ?_ ?_
 rotate_left 2
 · go_simp
   constructor
   · rfl
   · rfl
 refine hK.out _ _ ⟨(blk_cell BK3.out 0).trans rfl, (blk_cell BK3.out 1).trans rfl, (blk_cell BK3.out 2).trans rfl, (blk_cell BK3.out 3).trans rfl, (blk_cell BK7.out 0).trans rfl, (blk_cell BK7.out 1).trans rfl, (blk_cell BK7.out 2).trans rfl, (blk_cell BK7.out 3).trans rfl⟩ (fun hHeld => ?_)
 clear hK K
 refine norm_ (a' := ?_) ?_ ?_
 rotate_left
 · show Act.put _ (some 41) _ = _
   simp only [Act.put, List.setIfInBounds_toArray, List.set_cons_zero, List.set_cons_succ, i64_w, i32_w]
   rfl
 refine one_ (i := 12) (N := some 42) #[true, true, true, true, true, true, true, true, true, true, true, true, true, false, false, false, false, false, false, false, false, false, false, false, false, false, false, false, false, false] rfl rfl (one_of HT_.out (by kernel_rfl)) (by decide) (fun K hK => ?_)
 refine goes_ Tryd.func13 (by kernel_rfl) rfl #[.agg #[.int .i64 x0, .int .i64 x1, .slice Ax x2.length cx, .string x3], .agg #[.int .i64 (rd_T24 lb 3).f0, .int .i64 (rd_T24 lb 3).f1, .slice AB (rd_T24 lb 3).f2.length cB, .string (rd_T24 lb 3).f3]] (by rfl) rfl rfl hL_ ?_
 (with_reducible refine (sleuthlaw0_SameNode.calls k x0 x1 _ _ x2 x3 (rd_T24 lb 3).f0 (rd_T24 lb 3).f1 _ _ (rd_T24 lb 3).f2 (rd_T24 lb 3).f3 true _ ?s1 ?s2 ?s3 ?s4 B7.out).mono ?_)
 (case s1 => exact (Kd.C_below HOx2.out hC_))
 (case s2 => exact HCx2.out)
 (case s3 => exact (Kd.C_below HRowB.out hC_))
 (case s4 => exact HLenB.out)
 rintro e wc8 ⟨rfl, hb⟩
 refine ⟨_, rfl, ?_⟩
 have hs_ := below_step hC_ hb
 replace HOla := a_ (Kd.C_below HOla.out hs_)
 replace HOx2 := a_ (Kd.C_below HOx2.out hs_)
 replace HOz2 := a_ (Kd.C_below HOz2.out hs_)
 replace HOlb := a_ (Kd.C_below HOlb.out hs_)
 replace BK3 := a_ (blk_below BK3.out hs_)
 replace BK7 := a_ (blk_below BK7.out hs_)
 replace HX := a_ (below_step HX.out hs_)
 replace HB := a_ (Below.refl wc8.heap.size wc8)
 clear hs_ hb
 refine hK.out _ _ ⟨(blk_cell BK3.out 0).trans rfl, (blk_cell BK3.out 1).trans rfl, (blk_cell BK3.out 2).trans rfl, (blk_cell BK3.out 3).trans rfl, (blk_cell BK7.out 0).trans rfl, (blk_cell BK7.out 1).trans rfl, (blk_cell BK7.out 2).trans rfl, (blk_cell BK7.out 3).trans rfl⟩ (fun hHeld => ?_)
 clear hK K
 refine norm_ (a' := ?_) ?_ ?_
 rotate_left
 · show Act.put _ (some 42) _ = _
   simp only [Act.put, List.setIfInBounds_toArray, List.set_cons_zero, List.set_cons_succ, i64_w, i32_w]
   rfl
 refine pB_ 13 43 HT_.out ?_
 refine pB_ 14 44 HT_.out ?_
 refine pB_ 15 45 HT_.out ?_
 refine one_ (i := 16) (N := some 46) #[true, true, true, true, true, true, true, true, true, true, true, true, true, true, true, true, true, false, false, false, false, false, false, false, false, false, false, false, false, false] rfl rfl (one_of HT_.out (by kernel_rfl)) (by decide) (fun K hK => ?_)
 refine goes_ Tryd.func12 (by kernel_rfl) rfl #[.int .i64 e2] (by rfl) rfl rfl hL_ ?_
 with_reducible refine (sleuthlaw0_Num.calls e2 t3 _ B8.out).mono ?_
 rintro e w' ⟨rfl, ⟨nq_, rfl⟩⟩
 refine ⟨_, rfl, ?_⟩
 refine hK.out _ _ ⟨(blk_cell BK3.out 0).trans rfl, (blk_cell BK3.out 1).trans rfl, (blk_cell BK3.out 2).trans rfl, (blk_cell BK3.out 3).trans rfl, (blk_cell BK7.out 0).trans rfl, (blk_cell BK7.out 1).trans rfl, (blk_cell BK7.out 2).trans rfl, (blk_cell BK7.out 3).trans rfl⟩ (fun hHeld => ?_)
 clear hK K
 refine norm_ (a' := ?_) ?_ ?_
 rotate_left
 · show Act.put _ (some 46) _ = _
   simp only [Act.put, List.setIfInBounds_toArray, List.set_cons_zero, List.set_cons_succ, i64_w, i32_w]
   rfl
 refine pB_ 17 47 HT_.out ?_
 refine pB_ 18 48 HT_.out ?_
 refine pB_ 19 49 HT_.out ?_
 refine pB_ 20 50 HT_.out ?_
 refine one_ (i := 21) (N := some 51) #[true, true, true, true, true, true, true, true, true, true, true, true, true, true, true, true, true, true, true, true, true, true, false, false, false, false, false, false, false, false] rfl rfl (one_of HT_.out (by kernel_rfl)) (by decide) (fun K hK => ?_)
 refine goes_ Tryd.func12 (by kernel_rfl) rfl #[.int .i64 e3] (by rfl) rfl rfl hL_ ?_
 with_reducible refine (sleuthlaw0_Num.calls e3 t4 _ B9.out).mono ?_
 rintro e w' ⟨rfl, ⟨nq_, rfl⟩⟩
 refine ⟨_, rfl, ?_⟩
 refine hK.out _ _ ⟨(blk_cell BK3.out 0).trans rfl, (blk_cell BK3.out 1).trans rfl, (blk_cell BK3.out 2).trans rfl, (blk_cell BK3.out 3).trans rfl, (blk_cell BK7.out 0).trans rfl, (blk_cell BK7.out 1).trans rfl, (blk_cell BK7.out 2).trans rfl, (blk_cell BK7.out 3).trans rfl⟩ (fun hHeld => ?_)
 clear hK K
 refine norm_ (a' := ?_) ?_ ?_
 rotate_left
 · show Act.put _ (some 51) _ = _
   simp only [Act.put, List.setIfInBounds_toArray, List.set_cons_zero, List.set_cons_succ, i64_w, i32_w]
   rfl
 refine pB_ 22 52 HT_.out ?_
 refine pB_ 23 53 HT_.out ?_
 refine pB_ 24 54 HT_.out ?_
 refine pB_ 25 55 HT_.out ?_
 refine one_ (i := 26) (N := some 56) #[true, true, true, true, true, true, true, true, true, true, true, true, true, true, true, true, true, true, true, true, true, true, true, true, true, true, true, false, false, false] rfl rfl (one_of HT_.out (by kernel_rfl)) (by decide) (fun K hK => ?_)
 refine goes_ Tryd.func12 (by kernel_rfl) rfl #[.int .i64 e4] (by rfl) rfl rfl hL_ ?_
 with_reducible refine (sleuthlaw0_Num.calls e4 t5 _ B10.out).mono ?_
 rintro e w' ⟨rfl, ⟨nq_, rfl⟩⟩
 refine ⟨_, rfl, ?_⟩
 refine hK.out _ _ ⟨(blk_cell BK3.out 0).trans rfl, (blk_cell BK3.out 1).trans rfl, (blk_cell BK3.out 2).trans rfl, (blk_cell BK3.out 3).trans rfl, (blk_cell BK7.out 0).trans rfl, (blk_cell BK7.out 1).trans rfl, (blk_cell BK7.out 2).trans rfl, (blk_cell BK7.out 3).trans rfl⟩ (fun hHeld => ?_)
 clear hK K
 refine norm_ (a' := ?_) ?_ ?_
 rotate_left
 · show Act.put _ (some 56) _ = _
   simp only [Act.put, List.setIfInBounds_toArray, List.set_cons_zero, List.set_cons_succ, i64_w, i32_w]
   rfl
 refine pB_ 27 57 HT_.out ?_
 refine pB_ 28 58 HT_.out ?_
 refine pB_ 29 0 HT_.out ?_
 refine done_ (done_of HT_.out (by kernel_rfl)) ?_
 (try clear z4 f4 z5 f5 z6 f6 z7 f7)
 obtain ⟨z4, z5, z6, z7, f4, f5, f6, f7⟩ := bx4_ BK3.out
 (try clear z8 f8 z9 f9 z10 f10 z11 f11)
 obtain ⟨z8, z9, z10, z11, f8, f9, f10, f11⟩ := bx4_ BK7.out
 try go_wp2
 go_ret
 exact ⟨hV_, below_step HX.out hC_⟩

end Go.Proofs.YthoegphcmkejoaaDoor.G
end
section
namespace Go.Proofs.YthoegphcmkejoaaDoor.G
open Go.RowKit Go.Proofs.YthoegphcmkejoaaDoorW.PrintWords Go.Proofs.YthoegphcmkejoaaDoorW.PrintLast Go.Proofs.YthoegphcmkejoaaDoorW.PrintMore
set_option linter.unusedVariables false
set_option linter.unusedSimpArgs false
def recSome : List Nd := [(⟨0, (-1), ([] : List ByteArray), (⟨#[57]⟩ : ByteArray)⟩ : Nd), (⟨1, 0, (([(⟨#[64, 55, 40, 95, 32, 52, 41]⟩ : ByteArray), (⟨#[53]⟩ : ByteArray)] : List ByteArray)), (⟨#[57]⟩ : ByteArray)⟩ : Nd), (⟨2, 0, ([] : List ByteArray), (⟨#[33]⟩ : ByteArray)⟩ : Nd), (⟨1, 1, (([(⟨#[49]⟩ : ByteArray), (⟨#[95]⟩ : ByteArray)] : List ByteArray)), (⟨#[95]⟩ : ByteArray)⟩ : Nd), (⟨1, 2, (([(⟨#[49]⟩ : ByteArray), (⟨#[95]⟩ : ByteArray)] : List ByteArray)), (⟨#[95]⟩ : ByteArray)⟩ : Nd)]
theorem recSome_eq : sleuthlaw15_some.f = some recSome := rfl
def rec3 : Nd := ⟨1, 1, [(⟨#[49]⟩ : ByteArray), (⟨#[95]⟩ : ByteArray)], (⟨#[95]⟩ : ByteArray)⟩
def rec3B : ByteArray := ⟨#[1, 2, 0, 2, 1, 0, 49, 1, 0, 95, 1, 0, 95]⟩
def recNil : Nd := ⟨0, 0, [], (⟨#[]⟩ : ByteArray)⟩
theorem rec3_put : putR rec3 = (rec3B, 0) := by kernel_rfl
theorem rec3_get : getR rec3B = (rec3, 0) := getR_of (by kernel_rfl) (by kernel_rfl)
theorem recNil_put : putR recNil = (⟨#[]⟩, 1500) := by kernel_rfl
theorem recNil_get : getR (⟨#[]⟩ : ByteArray) = (recNil, 1500) := by kernel_rfl
theorem awakeRec_ev : Ev (fun k => sleuthlaw15_awake.f k) true := by
  unfold sleuthlaw15_awake.f
  have hlt : (3 : Int) < (recSome.length : Int) := by decide
  simp only [recSome_eq, Option.bind_some, if_pos hlt]
  have p1 := putRec_ev rec3 (by decide) (by decide)
  have p2 := getRec_ev rec3B
  have p3 := putRec_ev recNil (by decide) (by decide)
  have p4 := getRec_ev (⟨#[]⟩ : ByteArray)
  rw [rec3_put] at p1
  rw [rec3_get] at p2
  rw [recNil_put] at p3
  rw [recNil_get] at p4
  have hb : rec3B.toList = ([1, 2, 0, 2, 1, 0, 49, 1, 0, 95, 1, 0, 95] : List UInt8) := toList_eq _
  refine Ev.bind p1 (Ev.bind p2 (Ev.bind p3 (Ev.bind p4 ?_)))
  simp only [hb, if_pos, sleuthlaw0_Num.f, Option.bind_some, flatR]
  refine Ev.bind (sameNode_ev rec3 (by decide)) ?_
  simp only [if_pos, BEq.rfl]
  exact Ev.now _
/-! what a row knows of one node -/
def fine1 (x : Nd) : Prop := (Lit.int .i64 x.f0).wf = true ∧ (Lit.int .i64 x.f1).wf = true ∧ (x.f2.length * 16 ≤ 140737488351232 ∧ ∀ s ∈ x.f2, s.size ≤ 140737488351232) ∧ x.f3.size ≤ 140737488351232
end Go.Proofs.YthoegphcmkejoaaDoor.G
end
